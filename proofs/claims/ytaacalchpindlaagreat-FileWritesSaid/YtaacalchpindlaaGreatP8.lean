/- The law FileWrites. Part 8 of 17. -/
import Derived.Test.YtaacalchpindlaaGreatP7
namespace Go.Proofs.E
open Go
set_option linter.unusedVariables false
set_option linter.unusedSimpArgs false
set_option linter.unusedSectionVars false
set_option maxRecDepth 4000
set_option maxHeartbeats 1000000
attribute [local irreducible] Yl TL TC TE Spec XM R1 Hp.le EnvLe TS TR YS Zo
theorem YE (ρ : Hp) (n : Int) : Spec Tryz.prog 54 [.int .i64 n] ρ [] (fun v ρ' L' => v = .bool (decide (0 ≤ n ∧ n < 3)) ∧ ρ' = ρ ∧ L' = []) := by
 refine Zf Tryz.func54 rfl rfl rfl fun u R => ?_
 simp only [Zv, List.cons_append, List.nil_append]
 by_cases h0 : 0 ≤ n
 ·by_cases h1 : n < 3
  ·rw [decide_eq_true ⟨h0, h1⟩]
   repeat' (first | (refine Zg ?_; first | (refine Ze ?_; refine qQ ?_) | refine Zj ?_) | refine Za ?_ | (refine Zh ?_; refine Zq ?_) | (refine Zi ?_; refine Zr ?_) | intro _)
   exact qE ⟨rfl, rfl, rfl⟩
  ·rw [decide_eq_false (fun h => h1 h.2)]
   repeat' (first | (refine Zg ?_; first | (refine Ze ?_; refine qQ ?_) | refine Zj ?_) | refine Za ?_ | (refine Zh ?_; refine Zq ?_) | (refine Zi ?_; refine Zr ?_) | intro _)
   exact qE ⟨rfl, rfl, rfl⟩
 ·rw [decide_eq_false (fun h => h0 h.1)]
  repeat' (first | (refine Zg ?_; first | (refine Ze ?_; refine qQ ?_) | refine Zj ?_) | refine Za ?_ | (refine Zh ?_; refine Zq ?_) | (refine Zi ?_; refine Zr ?_) | intro _)
  exact qE ⟨rfl, rfl, rfl⟩
theorem Yy (ρ : Hp) (t : Int) (id : Nat) (h0 : 0 ≤ t) (h3 : t < 3) (hid : id < 65536) : Spec Tryz.prog 53 [.agg ⟨keyV t id⟩] ρ [] (fun v ρ' L' => v = .int .i64 (t * 65536 + id) ∧ ρ' = ρ ∧ L' = []) := by
 refine Zf Tryz.func53 rfl rfl rfl fun u R => ?_
 simp only [Zv, List.cons_append, List.nil_append]
 repeat' (first | (refine Zg ?_; first | (refine Ze ?_; refine qQ ?_) | refine Zj ?_) | refine Za ?_ | (refine Zh ?_; refine Zq ?_) | (refine Zi ?_; refine Zr ?_) | intro _)
 exact qE ⟨rfl, rfl, rfl⟩
theorem order_lt {t1 t2 : Int} {i1 i2 : Nat} (h1 : i1 < 65536) (h2 : i2 < 65536) : cmpK t1 i1 t2 i2 < 0 ↔ t1 * 65536 + i1 < t2 * 65536 + i2 := by
 rw [cmpK_lt]; omega
theorem rightRow_spec (ρ : Hp) (r : Row) : Spec Tryz.prog 52 [.agg ⟨Yp r⟩] ρ [] (fun v ρ' L' => v = .bool (YI r) ∧ ρ' = ρ ∧ L' = []) := by
 obtain ⟨t, id, val, note⟩ := r
 refine Zf Tryz.func52 rfl rfl rfl fun u R => ?_
 simp only [Zv, List.cons_append, List.nil_append, YI]
 by_cases h1 : 0 ≤ t ∧ t < 3
 ·have hd : decide (0 ≤ t ∧ t < 3) = true := decide_eq_true h1
  by_cases h2 : note.length ≤ 8
  ·rw [decide_eq_true ⟨h1, h2⟩]
   repeat' (first | (refine Zd (.func 54) ?_; refine qC rfl rfl (YE _ _) ?_; rintro v ρ' L' hle ⟨rfl, rfl, rfl⟩ <;> (try simp only [kM, kN, kO, hd])) | (refine Zg ?_; first | (refine Ze ?_; refine qQ ?_) | refine Zj ?_) | refine Za ?_ | (refine Zh ?_; refine Zq ?_) | (refine Zi ?_; refine Zr ?_) | intro _)
   exact qE ⟨rfl, rfl, rfl⟩
  ·rw [decide_eq_false (fun h => h2 h.2)]
   repeat' (first | (refine Zd (.func 54) ?_; refine qC rfl rfl (YE _ _) ?_; rintro v ρ' L' hle ⟨rfl, rfl, rfl⟩ <;> (try simp only [kM, kN, kO, hd])) | (refine Zg ?_; first | (refine Ze ?_; refine qQ ?_) | refine Zj ?_) | refine Za ?_ | (refine Zh ?_; refine Zq ?_) | (refine Zi ?_; refine Zr ?_) | intro _)
   exact qE ⟨rfl, rfl, rfl⟩
 ·have hd : decide (0 ≤ t ∧ t < 3) = false := decide_eq_false h1
  rw [decide_eq_false (fun h => h1 h.1)]
  repeat' (first | (refine Zd (.func 54) ?_; refine qC rfl rfl (YE _ _) ?_; rintro v ρ' L' hle ⟨rfl, rfl, rfl⟩ <;> (try simp only [kM, kN, kO, hd])) | (refine Zg ?_; first | (refine Ze ?_; refine qQ ?_) | refine Zj ?_) | refine Za ?_ | (refine Zh ?_; refine Zq ?_) | (refine Zi ?_; refine Zr ?_) | intro _)
  exact qE ⟨rfl, rfl, rfl⟩
theorem risesB_split {α : Type} {most : Nat} {right : Nat → α → Bool} {lt : α → α → Bool} {l : List α} : ∀ k, Ym most right lt l k = (decide (l.length ≤ most) && Ym l.length right lt l k)
 | 0 => by simp [Ym]
 | k + 1 => by rw [Ym, risesB_split k, Ym, Bool.and_assoc]
theorem rowsR_spec (ρ : Hp) (a : Option Addr) (n c : Nat) (l : List Row) (h : AIn ρ 4 Yp a n l) (hn : n ≤ 1000000) (hid : ∀ r ∈ l, r.id < 65536) :
  Spec Tryz.prog 28 [.slice a n c] ρ [] (fun v ρ' L' => v = .bool (rowsOk l) ∧ ρ' = ρ ∧ L' = []) := by
 have hl := h.len
 unfold rowsOk
 rw [risesB_split, hl]
 refine Zf Tryz.func28 rfl rfl rfl fun u R => ?_
 simp only [Zv, List.cons_append, List.nil_append]
 generalize hrt : (fun (_ : Nat) (r : Row) => YI r) = rt
 repeat' (first | (refine Zg ?_; first | (refine Ze ?_; refine qQ ?_) | refine Zj ?_) | refine Za ?_ | (refine Zh ?_; refine Zq ?_) | (refine Zi ?_; refine Zr ?_) | intro _)
 refine ZB [(0, _), (2, _), (5, _), (6, _)] (fun (ζ : (Nat)) => [(7, .int .i64 ζ)]) (fun (ζ : (Nat)) => ρ) (fun (ζ : (Nat)) => []) (fun (ζ : (Nat)) => ζ ≤ n ∧ Ym n rt ltR l ζ = true) (fun (ζ : (Nat)) => n - ζ) (0) (⟨Nat.zero_le _, by rw [Ym, hl]; exact decide_eq_true (Nat.le_refl _)⟩) Zm Zm rfl tk ?_
 rintro k hI
 try simp only [List.cons_append, List.nil_append, List.append_assoc, List.append_eq] at hI ⊢
 try dsimp only at hI ⊢
 obtain ⟨hk, hok⟩ := hI
 by_cases hlt : k < n
 ·obtain ⟨b, off, C, T, fr, rfl, hb, hfit, hc⟩ := h.get (show k < l.length by omega)
  have hs := risesB_succ (most := n) (right := rt) (lt := ltR) (show k < l.length by omega)
  rw [hok, Bool.true_and] at hs
  have hrk : rt k (l[k]'(by omega)) = YI (l[k]'(by omega)) := by rw [← hrt]
  rw [hrk] at hs
  have hfin := fun (e : Ym n rt ltR l (k + 1) = false) => risesB_false' e (show k + 1 ≤ n by omega)
  have hmem : l[k]'(by omega) ∈ l := List.getElem_mem _
  have hidk := hid _ hmem
  cases hx : YI (l[k]'(by omega))
  ·rw [hx, Bool.false_and] at hs
   rw [hfin hs, Bool.and_false]
   generalize l[k]'(by omega) = x at *
   repeat' (first | (refine Zg ?_; first | (refine Ze ?_; refine qQ ?_) | refine Zj ?_) | refine Za ?_ | (refine Zh ?_; refine Zq ?_) | (refine Zi ?_; refine Zr ?_) | intro _)
   refine ZD (Zo _ _ _) ZZ ?_
   all_goals refine rLd 0 ?_
   all_goals (refine Zn (i := 1) ?_; ((try refine Zk ?_); (first | (refine Zd (.func 52) ?_; refine qC rfl rfl (rightRow_spec _ x) ?_; rintro v ρ' L' hle ⟨rfl, rfl, rfl⟩ <;> (try simp only [kM, kN, kO, hx])) | (refine Zj ?_; try intro _)) <;> ((try simp only [kM, kN, kO]); refine Za ?_; refine Zl ?_)))
   all_goals (refine rUn 2 ?_; refine ZO 3 ?_; (first | refine Zc 4 ?_ | refine Zb 4 ?_ | refine ZU 4 ?_); (first | refine Zc 5 ?_ | refine Zb 5 ?_ | refine wCm 5 ?_); (first | refine Zc 6 ?_ | refine Zb 6 ?_ | refine ZU 6 ?_); (first | refine Zc 7 ?_ | refine Zb 7 ?_ | refine ZU 7 ?_); (first | refine Zc 8 ?_ | refine Zb 8 ?_ | refine ZU 8 ?_); (first | refine Zc 9 ?_ | refine Zb 9 ?_ | refine wSb 9 ?_); (first | refine Zc 10 ?_ | refine Zb 10 ?_ | refine wIa 10 ?_); (first | refine Zc 11 ?_ | refine Zb 11 ?_ | refine wFa 11 ?_); (first | refine Zc 12 ?_ | refine Zb 12 ?_ | refine wLd 12 ?_); (first | refine Zc 14 ?_ | refine Zb 14 ?_ | refine wFa 14 ?_); (first | refine Zc 15 ?_ | refine Zb 15 ?_ | refine wLd 15 ?_))
   all_goals (first | refine Zc 13 ?_ | refine Zb 13 ?_ | (refine Zn (i := 13) ?_; ((try refine Zk ?_); (first | (refine Zj ?_; try intro _)) <;> ((try simp only [kM, kN, kO]); refine Za ?_; refine Zl ?_))))
   all_goals (first | refine Zc 16 ?_ | refine Zb 16 ?_ | (refine Zn (i := 16) ?_; ((try refine Zk ?_); (first | (refine Zj ?_; try intro _)) <;> ((try simp only [kM, kN, kO]); refine Za ?_; refine Zl ?_))))
   all_goals (refine ZR ?_; (first | refine Zc 17 ?_ | refine Zb 17 ?_ | refine wCm 17 ?_); (first | refine Zc 18 ?_ | refine Zb 18 ?_ | refine wPk 18 ?_); refine rPk 19 ?_; refine ZH ?_)
   repeat' (first | (refine Zg ?_; first | (refine Ze ?_; refine qQ ?_) | refine Zj ?_) | refine Za ?_ | (refine Zh ?_; refine Zq ?_) | (refine Zi ?_; refine Zr ?_) | intro _)
   exact qE ⟨rfl, rfl, rfl⟩
  ·rw [hx, Bool.true_and] at hs
   by_cases hk0 : k = 0
   ·have hs' : Ym n rt ltR l (k + 1) = true := by rw [hs]; simp [hk0]
    generalize l[k]'(by omega) = x at *
    repeat' (first | (refine Zg ?_; first | (refine Ze ?_; refine qQ ?_) | refine Zj ?_) | refine Za ?_ | (refine Zh ?_; refine Zq ?_) | (refine Zi ?_; refine Zr ?_) | intro _)
    refine ZD (Zo _ _ _) ZZ ?_
    all_goals refine rLd 0 ?_
    all_goals (refine Zn (i := 1) ?_; ((try refine Zk ?_); (first | (refine Zd (.func 52) ?_; refine qC rfl rfl (rightRow_spec _ x) ?_; rintro v ρ' L' hle ⟨rfl, rfl, rfl⟩ <;> (try simp only [kM, kN, kO, hx])) | (refine Zj ?_; try intro _)) <;> ((try simp only [kM, kN, kO]); refine Za ?_; refine Zl ?_)))
    all_goals (refine rUn 2 ?_; refine ZO 3 ?_; (first | refine Zc 4 ?_ | refine Zb 4 ?_ | refine ZU 4 ?_); (first | refine Zc 5 ?_ | refine Zb 5 ?_ | refine wCm 5 ?_); (first | refine Zc 6 ?_ | refine Zb 6 ?_ | refine ZU 6 ?_); (first | refine Zc 7 ?_ | refine Zb 7 ?_ | refine ZU 7 ?_); (first | refine Zc 8 ?_ | refine Zb 8 ?_ | refine ZU 8 ?_); (first | refine Zc 9 ?_ | refine Zb 9 ?_ | refine wSb 9 ?_); (first | refine Zc 10 ?_ | refine Zb 10 ?_ | refine wIa 10 ?_); (first | refine Zc 11 ?_ | refine Zb 11 ?_ | refine wFa 11 ?_); (first | refine Zc 12 ?_ | refine Zb 12 ?_ | refine wLd 12 ?_); (first | refine Zc 14 ?_ | refine Zb 14 ?_ | refine wFa 14 ?_); (first | refine Zc 15 ?_ | refine Zb 15 ?_ | refine wLd 15 ?_))
    all_goals (first | refine Zc 13 ?_ | refine Zb 13 ?_ | (refine Zn (i := 13) ?_; ((try refine Zk ?_); (first | (refine Zj ?_; try intro _)) <;> ((try simp only [kM, kN, kO]); refine Za ?_; refine Zl ?_))))
    all_goals (first | refine Zc 16 ?_ | refine Zb 16 ?_ | (refine Zn (i := 16) ?_; ((try refine Zk ?_); (first | (refine Zj ?_; try intro _)) <;> ((try simp only [kM, kN, kO]); refine Za ?_; refine Zl ?_))))
    all_goals (refine ZR ?_; (first | refine Zc 17 ?_ | refine Zb 17 ?_ | refine wCm 17 ?_); (first | refine Zc 18 ?_ | refine Zb 18 ?_ | refine wPk 18 ?_); refine rPk 19 ?_; refine ZH ?_)
    repeat' (first | (refine Zg ?_; first | (refine Ze ?_; refine qQ ?_) | refine Zj ?_) | refine Za ?_ | (refine Zh ?_; refine Zq ?_) | (refine Zi ?_; refine Zr ?_) | intro _)
    refine Zp (k + 1) (⟨hlt, hs'⟩) Zm Zm rfl tk inferInstance (by first | omega | (dsimp only; omega))
   ·have hd : decide (k = 0) = false := decide_eq_false hk0
    rw [hd, Bool.false_or] at hs
    obtain ⟨b2, off2, C2, T2, fr2, f1, hb2, hfit2, hc2⟩ := h.get (show k - 1 < l.length by omega)
    cases f1
    rw [hb] at hb2
    cases hb2
    have ek : ((k : Int) - 1).toNat = k - 1 := by omega
    have hkey : List.take 2 (List.drop (off + ((k : Int) - 1).toNat * 4) C) = keyV (l[k - 1]'(by omega)).t (l[k - 1]'(by omega)).id := by
     rw [ek]
     have := congrArg (List.take 2) hc2
     rw [List.take_take] at this
     exact this
    have hfit3 : off + ((k : Int) - 1).toNat * 4 + 2 ≤ C.length := by rw [ek]; omega
    obtain ⟨g1, g2⟩ := risesB_true hok (by omega)
    have hrp := (g2 (k - 1) (by omega) (by omega)).1
    have hrk1 : rt (k - 1) (l[k - 1]'(by omega)) = YI (l[k - 1]'(by omega)) := by rw [← hrt]
    rw [hrk1] at hrp
    have hidp := hid _ (List.getElem_mem (show k - 1 < l.length by omega))
    clear hc2 hfit2 hrk hrk1
    generalize l[k]'(by omega) = x at *
    generalize l[k - 1]'(by omega) = y at *
    obtain ⟨y0, y3, _⟩ := rowOk_iff hrp
    obtain ⟨x0, x3, _⟩ := rowOk_iff hx
    have hor := order_lt (t1 := y.t) (t2 := x.t) hidp hidk
    unfold ltR at hs
    by_cases hcm : cmpK y.t y.id x.t x.id < 0
    ·rw [decide_eq_true hcm] at hs
     have hcm2 := hor.1 hcm
     repeat' (first | (refine Zg ?_; first | (refine Ze ?_; refine qQ ?_) | refine Zj ?_) | refine Za ?_ | (refine Zh ?_; refine Zq ?_) | (refine Zi ?_; refine Zr ?_) | intro _)
     refine ZD (Zo _ _ _) ZZ ?_
     all_goals refine rLd 0 ?_
     all_goals (refine Zn (i := 1) ?_; ((try refine Zk ?_); (first | (refine Zd (.func 52) ?_; refine qC rfl rfl (rightRow_spec _ x) ?_; rintro v ρ' L' hle ⟨rfl, rfl, rfl⟩ <;> (try simp only [kM, kN, kO, hx])) | (refine Zj ?_; try intro _)) <;> ((try simp only [kM, kN, kO]); refine Za ?_; refine Zl ?_)))
     all_goals (refine rUn 2 ?_; refine ZO 3 ?_; (first | refine Zc 4 ?_ | refine Zb 4 ?_ | refine ZU 4 ?_); (first | refine Zc 5 ?_ | refine Zb 5 ?_ | refine wCm 5 ?_); (first | refine Zc 6 ?_ | refine Zb 6 ?_ | refine ZU 6 ?_); (first | refine Zc 7 ?_ | refine Zb 7 ?_ | refine ZU 7 ?_); (first | refine Zc 8 ?_ | refine Zb 8 ?_ | refine ZU 8 ?_); (first | refine Zc 9 ?_ | refine Zb 9 ?_ | refine wSb 9 ?_); (first | refine Zc 10 ?_ | refine Zb 10 ?_ | refine wIa 10 ?_); (first | refine Zc 11 ?_ | refine Zb 11 ?_ | refine wFa 11 ?_); (first | refine Zc 12 ?_ | refine Zb 12 ?_ | refine wLd 12 ?_); (first | refine Zc 14 ?_ | refine Zb 14 ?_ | refine wFa 14 ?_); (first | refine Zc 15 ?_ | refine Zb 15 ?_ | refine wLd 15 ?_))
     all_goals (first | refine Zc 13 ?_ | refine Zb 13 ?_ | (refine Zn (i := 13) ?_; ((try refine Zk ?_); (first | (refine Zd (.func 53) ?_; refine qC rfl rfl (Yy _ y.t y.id y0 y3 hidp) ?_; rintro v ρ' L' hle ⟨rfl, rfl, rfl⟩ <;> (try simp only [kM, kN, kO])) | (refine Zd (.func 53) ?_; refine qC rfl rfl (Yy _ x.t x.id x0 x3 hidk) ?_; rintro v ρ' L' hle ⟨rfl, rfl, rfl⟩ <;> (try simp only [kM, kN, kO])) | (refine Zj ?_; try intro _)) <;> ((try simp only [kM, kN, kO]); refine Za ?_; refine Zl ?_))))
     all_goals (first | refine Zc 16 ?_ | refine Zb 16 ?_ | (refine Zn (i := 16) ?_; ((try refine Zk ?_); (first | (refine Zd (.func 53) ?_; refine qC rfl rfl (Yy _ y.t y.id y0 y3 hidp) ?_; rintro v ρ' L' hle ⟨rfl, rfl, rfl⟩ <;> (try simp only [kM, kN, kO])) | (refine Zd (.func 53) ?_; refine qC rfl rfl (Yy _ x.t x.id x0 x3 hidk) ?_; rintro v ρ' L' hle ⟨rfl, rfl, rfl⟩ <;> (try simp only [kM, kN, kO])) | (refine Zj ?_; try intro _)) <;> ((try simp only [kM, kN, kO]); refine Za ?_; refine Zl ?_))))
     all_goals (refine ZR ?_; (first | refine Zc 17 ?_ | refine Zb 17 ?_ | refine wCm 17 ?_); (first | refine Zc 18 ?_ | refine Zb 18 ?_ | refine wPk 18 ?_); refine rPk 19 ?_; refine ZH ?_)
     all_goals (repeat' (first | (refine Zg ?_; first | (refine Ze ?_; refine qQ ?_) | refine Zj ?_) | refine Za ?_ | (refine Zh ?_; refine Zq ?_) | (refine Zi ?_; refine Zr ?_) | intro _))
     all_goals refine Zp (k + 1) (⟨hlt, hs⟩) Zm Zm rfl tk inferInstance (by first | omega | (dsimp only; omega))
    ·rw [decide_eq_false hcm] at hs
     rw [hfin hs, Bool.and_false]
     have hcm2 : ¬ (y.t * 65536 + y.id < x.t * 65536 + x.id) := fun h => hcm (hor.2 h)
     repeat' (first | (refine Zg ?_; first | (refine Ze ?_; refine qQ ?_) | refine Zj ?_) | refine Za ?_ | (refine Zh ?_; refine Zq ?_) | (refine Zi ?_; refine Zr ?_) | intro _)
     refine ZD (Zo _ _ _) ZZ ?_
     all_goals refine rLd 0 ?_
     all_goals (refine Zn (i := 1) ?_; ((try refine Zk ?_); (first | (refine Zd (.func 52) ?_; refine qC rfl rfl (rightRow_spec _ x) ?_; rintro v ρ' L' hle ⟨rfl, rfl, rfl⟩ <;> (try simp only [kM, kN, kO, hx])) | (refine Zj ?_; try intro _)) <;> ((try simp only [kM, kN, kO]); refine Za ?_; refine Zl ?_)))
     all_goals (refine rUn 2 ?_; refine ZO 3 ?_; (first | refine Zc 4 ?_ | refine Zb 4 ?_ | refine ZU 4 ?_); (first | refine Zc 5 ?_ | refine Zb 5 ?_ | refine wCm 5 ?_); (first | refine Zc 6 ?_ | refine Zb 6 ?_ | refine ZU 6 ?_); (first | refine Zc 7 ?_ | refine Zb 7 ?_ | refine ZU 7 ?_); (first | refine Zc 8 ?_ | refine Zb 8 ?_ | refine ZU 8 ?_); (first | refine Zc 9 ?_ | refine Zb 9 ?_ | refine wSb 9 ?_); (first | refine Zc 10 ?_ | refine Zb 10 ?_ | refine wIa 10 ?_); (first | refine Zc 11 ?_ | refine Zb 11 ?_ | refine wFa 11 ?_); (first | refine Zc 12 ?_ | refine Zb 12 ?_ | refine wLd 12 ?_); (first | refine Zc 14 ?_ | refine Zb 14 ?_ | refine wFa 14 ?_); (first | refine Zc 15 ?_ | refine Zb 15 ?_ | refine wLd 15 ?_))
     all_goals (first | refine Zc 13 ?_ | refine Zb 13 ?_ | (refine Zn (i := 13) ?_; ((try refine Zk ?_); (first | (refine Zd (.func 53) ?_; refine qC rfl rfl (Yy _ y.t y.id y0 y3 hidp) ?_; rintro v ρ' L' hle ⟨rfl, rfl, rfl⟩ <;> (try simp only [kM, kN, kO])) | (refine Zd (.func 53) ?_; refine qC rfl rfl (Yy _ x.t x.id x0 x3 hidk) ?_; rintro v ρ' L' hle ⟨rfl, rfl, rfl⟩ <;> (try simp only [kM, kN, kO])) | (refine Zj ?_; try intro _)) <;> ((try simp only [kM, kN, kO]); refine Za ?_; refine Zl ?_))))
     all_goals (first | refine Zc 16 ?_ | refine Zb 16 ?_ | (refine Zn (i := 16) ?_; ((try refine Zk ?_); (first | (refine Zd (.func 53) ?_; refine qC rfl rfl (Yy _ y.t y.id y0 y3 hidp) ?_; rintro v ρ' L' hle ⟨rfl, rfl, rfl⟩ <;> (try simp only [kM, kN, kO])) | (refine Zd (.func 53) ?_; refine qC rfl rfl (Yy _ x.t x.id x0 x3 hidk) ?_; rintro v ρ' L' hle ⟨rfl, rfl, rfl⟩ <;> (try simp only [kM, kN, kO])) | (refine Zj ?_; try intro _)) <;> ((try simp only [kM, kN, kO]); refine Za ?_; refine Zl ?_))))
     all_goals (refine ZR ?_; (first | refine Zc 17 ?_ | refine Zb 17 ?_ | refine wCm 17 ?_); (first | refine Zc 18 ?_ | refine Zb 18 ?_ | refine wPk 18 ?_); refine rPk 19 ?_; refine ZH ?_)
     all_goals (repeat' (first | (refine Zg ?_; first | (refine Ze ?_; refine qQ ?_) | refine Zj ?_) | refine Za ?_ | (refine Zh ?_; refine Zq ?_) | (refine Zi ?_; refine Zr ?_) | intro _))
     all_goals exact qE ⟨rfl, rfl, rfl⟩
 ·have hk2 : k = n := by omega
  subst hk2
  rw [hok, Bool.and_true]
  by_cases h4 : k ≤ 4
  ·rw [decide_eq_true h4]
   repeat' (first | (refine Zg ?_; first | (refine Ze ?_; refine qQ ?_) | refine Zj ?_) | refine Za ?_ | (refine Zh ?_; refine Zq ?_) | (refine Zi ?_; refine Zr ?_) | intro _)
   exact qE ⟨rfl, rfl, rfl⟩
  ·rw [decide_eq_false h4]
   repeat' (first | (refine Zg ?_; first | (refine Ze ?_; refine qQ ?_) | refine Zj ?_) | refine Za ?_ | (refine Zh ?_; refine Zq ?_) | (refine Zi ?_; refine Zr ?_) | intro _)
   exact qE ⟨rfl, rfl, rfl⟩
theorem psTo_mem {l : List Kid} {k : Nat} {p : Int} : p ∈ psTo l k ↔ ∃ x ∈ l.take k, x.page = p := by simp only [psTo, List.mem_reverse, List.mem_map]
theorem kidsR_spec (ρ : Hp) (a : Option Addr) (n c : Nat) (l : List Kid) (h : AIn ρ 3 YY a n l) (hn : n ≤ 1000000) (hnc : n ≤ c) (hid : ∀ r ∈ l, r.id < 65536) :
  Spec Tryz.prog 29 [.slice a n c] ρ [] (fun v ρ' L' => v = .bool (decide (1 < n) && kidsOk l) ∧ ρ' = ρ ∧ L' = []) := by
 have hl := h.len
 unfold kidsOk
 rw [risesB_split, hl]
 refine Zf Tryz.func29 rfl rfl rfl fun u R => ?_
 simp only [Zv, List.cons_append, List.nil_append]
 generalize hrt : (fun (i : Nat) (k : Kid) => kidOk i (psTo l i) k) = rt
 repeat' (first | (refine Zg ?_; first | (refine Ze ?_; refine qQ ?_) | refine Zj ?_) | refine Za ?_ | (refine Zh ?_; refine Zq ?_) | (refine Zi ?_; refine Zr ?_) | intro _)
 refine ZB [(0, _), (2, _), (7, _), (8, _)] (fun (ζ : (Nat)) => [(9, .int .i64 ζ)]) (fun (ζ : (Nat)) => ρ) (fun (ζ : (Nat)) => []) (fun (ζ : (Nat)) => ζ ≤ n ∧ Ym n rt ltK l ζ = true) (fun (ζ : (Nat)) => n - ζ) (0) (⟨Nat.zero_le _, by rw [Ym, hl]; exact decide_eq_true (Nat.le_refl _)⟩) Zm Zm rfl tk ?_
 rintro k hI
 try simp only [List.cons_append, List.nil_append, List.append_assoc, List.append_eq] at hI ⊢
 try dsimp only at hI ⊢
 obtain ⟨hk, hok⟩ := hI
 by_cases hlt : k < n
 ·have hsub := h.take (hi' := k) (by omega)
  obtain ⟨b, off, C, T, fr, rfl, hb, hfit, hc⟩ := h.get (show k < l.length by omega)
  have hs := risesB_succ (most := n) (right := rt) (lt := ltK) (show k < l.length by omega)
  rw [hok, Bool.true_and] at hs
  have hrk : rt k (l[k]'(by omega)) = kidOk k (psTo l k) (l[k]'(by omega)) := by rw [← hrt]
  rw [hrk] at hs
  have hfin := fun (e : Ym n rt ltK l (k + 1) = false) => risesB_false' e (show k + 1 ≤ n by omega)
  have hmem : l[k]'(by omega) ∈ l := List.getElem_mem _
  have hidk := hid _ hmem
  have hx : ∀ P : Prop, (kidOk k (psTo l k) (l[k]'(by omega)) = true → P) → ¬ P → (decide (1 < n) && (decide (n ≤ 4) && Ym n rt ltK l n)) = false := fun P h1 h2 => by
   have : kidOk k (psTo l k) (l[k]'(by omega)) = false := by
    cases e : kidOk k (psTo l k) (l[k]'(by omega))
    ·rfl
    ·exact absurd (h1 e) h2
   rw [this, Bool.false_and] at hs
   rw [hfin hs]; simp
  have hkx : kidOk k (psTo l k) (l[k]'(by omega)) = true → (l[k]'(by omega)).page ∉ psTo l k ∧ 0 < (l[k]'(by omega)).page ∧ (l[k]'(by omega)).page < 64 ∧ (0 ≤ (l[k]'(by omega)).t ∧ (l[k]'(by omega)).t < 3) ∧ (0 < k ∨ ((l[k]'(by omega)).t = 0 ∧ (l[k]'(by omega)).id = 0)) := fun e => of_decide_eq_true e
  generalize hX : l[k]'(by omega) = x at *
  by_cases p0 : 0 < x.page
  ·by_cases p6 : x.page < 64
   ·by_cases ht : 0 ≤ x.t ∧ x.t < 3
    ·have hd : decide (0 ≤ x.t ∧ x.t < 3) = true := decide_eq_true ht
     by_cases hk0 : k = 0
     ·by_cases hz : x.t = 0 ∧ x.id = 0
      ·have hkk : ((x.t == 0) && (((x.id : Int) == 0) && true)) = true := by simp [hz.1, hz.2]
       repeat' (first | (refine Zg ?_; first | (refine Ze ?_; refine qQ ?_) | refine Zj ?_) | refine Za ?_ | (refine Zh ?_; refine Zq ?_) | (refine Zi ?_; refine Zr ?_) | intro _)
       rename_i b4
       refine ZD (Zo _ _ _) ZZ ?_
       all_goals (refine rFa 0 ?_; refine rLd 1 ?_; refine rCm 2 ?_; refine ZO 3 ?_; (first | refine Zc 4 ?_ | refine Zb 4 ?_ | refine wFa 4 ?_); (first | refine Zc 5 ?_ | refine Zb 5 ?_ | refine wLd 5 ?_); (first | refine Zc 6 ?_ | refine Zb 6 ?_ | refine wCm 6 ?_); refine rPk 7 ?_; refine ZO 8 ?_; (first | refine Zc 9 ?_ | refine Zb 9 ?_ | refine wFa 9 ?_); (first | refine Zc 10 ?_ | refine Zb 10 ?_ | refine wFa 10 ?_); (first | refine Zc 11 ?_ | refine Zb 11 ?_ | refine wLd 11 ?_))
       all_goals (first | refine Zc 12 ?_ | refine Zb 12 ?_ | (refine Zn (i := 12) ?_; ((try refine Zk ?_); (first | (refine Zd (.func 54) ?_; refine qC rfl rfl (YE _ _) ?_; rintro v ρ' L' hle ⟨rfl, rfl, rfl⟩ <;> (try simp only [kM, kN, kO, hd])) | (refine Zj ?_; try intro _)) <;> ((try simp only [kM, kN, kO]); refine Za ?_; refine Zl ?_))))
       all_goals ((first | refine Zc 13 ?_ | refine Zb 13 ?_ | refine wUn 13 ?_); refine rPk 14 ?_; refine ZO 15 ?_; (first | refine Zc 16 ?_ | refine Zb 16 ?_ | refine ZU 16 ?_); (first | refine Zc 17 ?_ | refine Zb 17 ?_ | refine wCm 17 ?_); (first | refine Zc 18 ?_ | refine Zb 18 ?_ | refine ZU 18 ?_); (first | refine Zc 19 ?_ | refine Zb 19 ?_ | refine wFa 19 ?_); (first | refine Zc 20 ?_ | refine Zb 20 ?_ | refine wLd 20 ?_); (first | refine Zc 21 ?_ | refine Zb 21 ?_ | refine wBu 21 ?_); (first | refine Zc 22 ?_ | refine Zb 22 ?_ | refine wCm 22 ?_); (first | refine Zc 23 ?_ | refine Zb 23 ?_ | refine wPk 23 ?_); refine rPk 24 ?_; refine ZO 25 ?_; (first | refine Zc 26 ?_ | refine Zb 26 ?_ | refine ZU 26 ?_); (first | refine Zc 27 ?_ | refine Zb 27 ?_ | refine wCm 27 ?_); (first | refine Zc 28 ?_ | refine Zb 28 ?_ | refine ZU 28 ?_); (first | refine Zc 29 ?_ | refine Zb 29 ?_ | refine ZU 29 ?_); (first | refine Zc 30 ?_ | refine Zb 30 ?_ | refine ZU 30 ?_); (first | refine Zc 31 ?_ | refine Zb 31 ?_ | refine wSb 31 ?_); (first | refine Zc 32 ?_ | refine Zb 32 ?_ | refine wIa 32 ?_); (first | refine Zc 33 ?_ | refine Zb 33 ?_ | refine wFa 33 ?_); (first | refine Zc 34 ?_ | refine Zb 34 ?_ | refine wLd 34 ?_); (first | refine Zc 36 ?_ | refine Zb 36 ?_ | refine wFa 36 ?_); (first | refine Zc 37 ?_ | refine Zb 37 ?_ | refine wLd 37 ?_))
       all_goals (first | refine Zc 35 ?_ | refine Zb 35 ?_ | (refine Zn (i := 35) ?_; ((try refine Zk ?_); (first | (refine Zj ?_; try intro _)) <;> ((try simp only [kM, kN, kO]); refine Za ?_; refine Zl ?_))))
       all_goals (first | refine Zc 38 ?_ | refine Zb 38 ?_ | (refine Zn (i := 38) ?_; ((try refine Zk ?_); (first | (refine Zj ?_; try intro _)) <;> ((try simp only [kM, kN, kO]); refine Za ?_; refine Zl ?_))))
       all_goals (refine ZR ?_; (first | refine Zc 39 ?_ | refine Zb 39 ?_ | refine wCm 39 ?_); (first | refine Zc 40 ?_ | refine Zb 40 ?_ | refine wPk 40 ?_); refine rPk 41 ?_; refine ZH ?_)
       repeat' (first | (refine Zg ?_; first | (refine Ze ?_; refine qQ ?_) | refine Zj ?_) | refine Za ?_ | (refine Zh ?_; refine Zq ?_) | (refine Zi ?_; refine Zr ?_) | intro _)
       simp only [Int.toNat_natCast]
       refine ZB [(0, _), (2, _), (4, _), (7, _), (8, _), (9, _), (58, _), (59, _)] (fun (ζ : (Nat)) => [(60, .int .i64 ζ)]) (fun (ζ : (Nat)) => ρ') (fun (ζ : (Nat)) => [[(b4, .cells ⟨YY x⟩ 82 (0, 0))]]) (fun (ζ : (Nat)) => ζ ≤ k ∧ ∀ y ∈ l.take ζ, y.page ≠ x.page) (fun (ζ : (Nat)) => k - ζ) (0) (⟨Nat.zero_le _, by simp⟩) Zm Zm rfl tk ?_
       rintro j hI
       try simp only [List.cons_append, List.nil_append, List.append_assoc, List.append_eq] at hI ⊢
       try dsimp only at hI ⊢
       obtain ⟨hj, hjo⟩ := hI
       by_cases hjk : j < k
       ·exact absurd hjk (by omega)
       ·have hj2 : j = k := by omega
        subst hj2
        have hke : kidOk j (psTo l j) x = true := decide_eq_true ⟨fun e => by obtain ⟨y, hy, he⟩ := psTo_mem.1 e; exact hjo y hy he, p0, p6, ht, .inr hz⟩
        rw [hke, Bool.true_and] at hs
        have hs' : Ym n rt ltK l (j + 1) = true := by rw [hs]; simp [hk0]
        repeat' (first | (refine Zg ?_; first | (refine Ze ?_; refine qQ ?_) | refine Zj ?_) | refine Za ?_ | (refine Zh ?_; refine Zq ?_) | (refine Zi ?_; refine Zr ?_) | intro _)
        refine Zp (j + 1) (⟨hlt, hs'⟩) Zm Zm rfl tk inferInstance (by first | omega | (dsimp only; omega))
      ·have hkk : ((x.t == 0) && (((x.id : Int) == 0) && true)) = false := by
        simp; intro h; exact fun h' => hz ⟨h, by omega⟩
       rw [hx (0 < k ∨ (x.t = 0 ∧ x.id = 0)) (fun e => (hkx e).2.2.2.2) (fun e => e.elim (by omega) hz)]
       repeat' (first | (refine Zg ?_; first | (refine Ze ?_; refine qQ ?_) | refine Zj ?_) | refine Za ?_ | (refine Zh ?_; refine Zq ?_) | (refine Zi ?_; refine Zr ?_) | intro _)
       refine ZD (Zo _ _ _) ZZ ?_
       all_goals (refine rFa 0 ?_; refine rLd 1 ?_; refine rCm 2 ?_; refine ZO 3 ?_; (first | refine Zc 4 ?_ | refine Zb 4 ?_ | refine wFa 4 ?_); (first | refine Zc 5 ?_ | refine Zb 5 ?_ | refine wLd 5 ?_); (first | refine Zc 6 ?_ | refine Zb 6 ?_ | refine wCm 6 ?_); refine rPk 7 ?_; refine ZO 8 ?_; (first | refine Zc 9 ?_ | refine Zb 9 ?_ | refine wFa 9 ?_); (first | refine Zc 10 ?_ | refine Zb 10 ?_ | refine wFa 10 ?_); (first | refine Zc 11 ?_ | refine Zb 11 ?_ | refine wLd 11 ?_))
       all_goals (first | refine Zc 12 ?_ | refine Zb 12 ?_ | (refine Zn (i := 12) ?_; ((try refine Zk ?_); (first | (refine Zd (.func 54) ?_; refine qC rfl rfl (YE _ _) ?_; rintro v ρ' L' hle ⟨rfl, rfl, rfl⟩ <;> (try simp only [kM, kN, kO, hd])) | (refine Zj ?_; try intro _)) <;> ((try simp only [kM, kN, kO]); refine Za ?_; refine Zl ?_))))
       all_goals ((first | refine Zc 13 ?_ | refine Zb 13 ?_ | refine wUn 13 ?_); refine rPk 14 ?_; refine ZO 15 ?_; (first | refine Zc 16 ?_ | refine Zb 16 ?_ | refine ZU 16 ?_); (first | refine Zc 17 ?_ | refine Zb 17 ?_ | refine wCm 17 ?_); (first | refine Zc 18 ?_ | refine Zb 18 ?_ | refine ZU 18 ?_); (first | refine Zc 19 ?_ | refine Zb 19 ?_ | refine wFa 19 ?_); (first | refine Zc 20 ?_ | refine Zb 20 ?_ | refine wLd 20 ?_); (first | refine Zc 21 ?_ | refine Zb 21 ?_ | refine wBu 21 ?_); (first | refine Zc 22 ?_ | refine Zb 22 ?_ | refine wCm 22 ?_); (first | refine Zc 23 ?_ | refine Zb 23 ?_ | refine wPk 23 ?_); refine rPk 24 ?_; refine ZO 25 ?_; (first | refine Zc 26 ?_ | refine Zb 26 ?_ | refine ZU 26 ?_); (first | refine Zc 27 ?_ | refine Zb 27 ?_ | refine wCm 27 ?_); (first | refine Zc 28 ?_ | refine Zb 28 ?_ | refine ZU 28 ?_); (first | refine Zc 29 ?_ | refine Zb 29 ?_ | refine ZU 29 ?_); (first | refine Zc 30 ?_ | refine Zb 30 ?_ | refine ZU 30 ?_); (first | refine Zc 31 ?_ | refine Zb 31 ?_ | refine wSb 31 ?_); (first | refine Zc 32 ?_ | refine Zb 32 ?_ | refine wIa 32 ?_); (first | refine Zc 33 ?_ | refine Zb 33 ?_ | refine wFa 33 ?_); (first | refine Zc 34 ?_ | refine Zb 34 ?_ | refine wLd 34 ?_); (first | refine Zc 36 ?_ | refine Zb 36 ?_ | refine wFa 36 ?_); (first | refine Zc 37 ?_ | refine Zb 37 ?_ | refine wLd 37 ?_))
       all_goals (first | refine Zc 35 ?_ | refine Zb 35 ?_ | (refine Zn (i := 35) ?_; ((try refine Zk ?_); (first | (refine Zj ?_; try intro _)) <;> ((try simp only [kM, kN, kO]); refine Za ?_; refine Zl ?_))))
       all_goals (first | refine Zc 38 ?_ | refine Zb 38 ?_ | (refine Zn (i := 38) ?_; ((try refine Zk ?_); (first | (refine Zj ?_; try intro _)) <;> ((try simp only [kM, kN, kO]); refine Za ?_; refine Zl ?_))))
       all_goals (refine ZR ?_; (first | refine Zc 39 ?_ | refine Zb 39 ?_ | refine wCm 39 ?_); (first | refine Zc 40 ?_ | refine Zb 40 ?_ | refine wPk 40 ?_); refine rPk 41 ?_; refine ZH ?_)
       repeat' (first | (refine Zg ?_; first | (refine Ze ?_; refine qQ ?_) | refine Zj ?_) | refine Za ?_ | (refine Zh ?_; refine Zq ?_) | (refine Zi ?_; refine Zr ?_) | intro _)
       exact qE ⟨rfl, rfl, rfl⟩
     ·have hdk : decide (k = 0) = false := decide_eq_false hk0
      rw [hdk, Bool.false_or] at hs
      obtain ⟨b2, off2, C2, T2, fr2, f1, hb2, hfit2, hc2⟩ := h.get (show k - 1 < l.length by omega)
      cases f1
      rw [hb] at hb2
      cases hb2
      have ek : ((k : Int) - 1).toNat = k - 1 := by omega
      have hkey : List.take 2 (List.drop (off + ((k : Int) - 1).toNat * 3) C) = keyV (l[k - 1]'(by omega)).t (l[k - 1]'(by omega)).id := by
       rw [ek]
       have := congrArg (List.take 2) hc2
       rw [List.take_take] at this
       exact this
      have hfit3 : off + ((k : Int) - 1).toNat * 3 + 2 ≤ C.length := by rw [ek]; omega
      obtain ⟨g1, g2⟩ := risesB_true hok (by omega)
      have hrp := (g2 (k - 1) (by omega) (by omega)).1
      have hrk1 : rt (k - 1) (l[k - 1]'(by omega)) = kidOk (k - 1) (psTo l (k - 1)) (l[k - 1]'(by omega)) := by rw [← hrt]
      rw [hrk1] at hrp
      have hrt2 := (of_decide_eq_true hrp).2.2.2.1
      have hidp := hid _ (List.getElem_mem (show k - 1 < l.length by omega))
      clear hc2 hfit2 hrk hrk1 hrp
      generalize l[k - 1]'(by omega) = y at *
      have hor := order_lt (t1 := y.t) (t2 := x.t) hidp hidk
      unfold ltK at hs
      by_cases hcm : cmpK y.t y.id x.t x.id < 0
      ·rw [decide_eq_true hcm] at hs
       have hcm2 := hor.1 hcm
       repeat' (first | (refine Zg ?_; first | (refine Ze ?_; refine qQ ?_) | refine Zj ?_) | refine Za ?_ | (refine Zh ?_; refine Zq ?_) | (refine Zi ?_; refine Zr ?_) | intro _)
       rename_i b4
       refine ZD (Zo _ _ _) ZZ ?_
       all_goals (refine rFa 0 ?_; refine rLd 1 ?_; refine rCm 2 ?_; refine ZO 3 ?_; (first | refine Zc 4 ?_ | refine Zb 4 ?_ | refine wFa 4 ?_); (first | refine Zc 5 ?_ | refine Zb 5 ?_ | refine wLd 5 ?_); (first | refine Zc 6 ?_ | refine Zb 6 ?_ | refine wCm 6 ?_); refine rPk 7 ?_; refine ZO 8 ?_; (first | refine Zc 9 ?_ | refine Zb 9 ?_ | refine wFa 9 ?_); (first | refine Zc 10 ?_ | refine Zb 10 ?_ | refine wFa 10 ?_); (first | refine Zc 11 ?_ | refine Zb 11 ?_ | refine wLd 11 ?_))
       all_goals (first | refine Zc 12 ?_ | refine Zb 12 ?_ | (refine Zn (i := 12) ?_; ((try refine Zk ?_); (first | (refine Zd (.func 54) ?_; refine qC rfl rfl (YE _ _) ?_; rintro v ρ' L' hle ⟨rfl, rfl, rfl⟩ <;> (try simp only [kM, kN, kO, hd])) | (refine Zj ?_; try intro _)) <;> ((try simp only [kM, kN, kO]); refine Za ?_; refine Zl ?_))))
       all_goals ((first | refine Zc 13 ?_ | refine Zb 13 ?_ | refine wUn 13 ?_); refine rPk 14 ?_; refine ZO 15 ?_; (first | refine Zc 16 ?_ | refine Zb 16 ?_ | refine ZU 16 ?_); (first | refine Zc 17 ?_ | refine Zb 17 ?_ | refine wCm 17 ?_); (first | refine Zc 18 ?_ | refine Zb 18 ?_ | refine ZU 18 ?_); (first | refine Zc 19 ?_ | refine Zb 19 ?_ | refine wFa 19 ?_); (first | refine Zc 20 ?_ | refine Zb 20 ?_ | refine wLd 20 ?_); (first | refine Zc 21 ?_ | refine Zb 21 ?_ | refine wBu 21 ?_); (first | refine Zc 22 ?_ | refine Zb 22 ?_ | refine wCm 22 ?_); (first | refine Zc 23 ?_ | refine Zb 23 ?_ | refine wPk 23 ?_); refine rPk 24 ?_; refine ZO 25 ?_; (first | refine Zc 26 ?_ | refine Zb 26 ?_ | refine ZU 26 ?_); (first | refine Zc 27 ?_ | refine Zb 27 ?_ | refine wCm 27 ?_); (first | refine Zc 28 ?_ | refine Zb 28 ?_ | refine ZU 28 ?_); (first | refine Zc 29 ?_ | refine Zb 29 ?_ | refine ZU 29 ?_); (first | refine Zc 30 ?_ | refine Zb 30 ?_ | refine ZU 30 ?_); (first | refine Zc 31 ?_ | refine Zb 31 ?_ | refine wSb 31 ?_); (first | refine Zc 32 ?_ | refine Zb 32 ?_ | refine wIa 32 ?_); (first | refine Zc 33 ?_ | refine Zb 33 ?_ | refine wFa 33 ?_); (first | refine Zc 34 ?_ | refine Zb 34 ?_ | refine wLd 34 ?_); (first | refine Zc 36 ?_ | refine Zb 36 ?_ | refine wFa 36 ?_); (first | refine Zc 37 ?_ | refine Zb 37 ?_ | refine wLd 37 ?_))
       all_goals (first | refine Zc 35 ?_ | refine Zb 35 ?_ | (refine Zn (i := 35) ?_; ((try refine Zk ?_); (first | (refine Zd (.func 53) ?_; refine qC rfl rfl (Yy _ y.t y.id hrt2.1 hrt2.2 hidp) ?_; rintro v ρ' L' hle ⟨rfl, rfl, rfl⟩ <;> (try simp only [kM, kN, kO])) | (refine Zd (.func 53) ?_; refine qC rfl rfl (Yy _ x.t x.id ht.1 ht.2 hidk) ?_; rintro v ρ' L' hle ⟨rfl, rfl, rfl⟩ <;> (try simp only [kM, kN, kO])) | (refine Zj ?_; try intro _)) <;> ((try simp only [kM, kN, kO]); refine Za ?_; refine Zl ?_))))
       all_goals (first | refine Zc 38 ?_ | refine Zb 38 ?_ | (refine Zn (i := 38) ?_; ((try refine Zk ?_); (first | (refine Zd (.func 53) ?_; refine qC rfl rfl (Yy _ y.t y.id hrt2.1 hrt2.2 hidp) ?_; rintro v ρ' L' hle ⟨rfl, rfl, rfl⟩ <;> (try simp only [kM, kN, kO])) | (refine Zd (.func 53) ?_; refine qC rfl rfl (Yy _ x.t x.id ht.1 ht.2 hidk) ?_; rintro v ρ' L' hle ⟨rfl, rfl, rfl⟩ <;> (try simp only [kM, kN, kO])) | (refine Zj ?_; try intro _)) <;> ((try simp only [kM, kN, kO]); refine Za ?_; refine Zl ?_))))
       all_goals (refine ZR ?_; (first | refine Zc 39 ?_ | refine Zb 39 ?_ | refine wCm 39 ?_); (first | refine Zc 40 ?_ | refine Zb 40 ?_ | refine wPk 40 ?_); refine rPk 41 ?_; refine ZH ?_)
       repeat' (first | (refine Zg ?_; first | (refine Ze ?_; refine qQ ?_) | refine Zj ?_) | refine Za ?_ | (refine Zh ?_; refine Zq ?_) | (refine Zi ?_; refine Zr ?_) | intro _)
       simp only [Int.toNat_natCast]
       refine ZB [(0, _), (2, _), (4, _), (7, _), (8, _), (9, _), (58, _), (59, _)] (fun (ζ : (Nat)) => [(60, .int .i64 ζ)]) (fun (ζ : (Nat)) => ρ') (fun (ζ : (Nat)) => [[(b4, .cells ⟨YY x⟩ 82 (0, 0))]]) (fun (ζ : (Nat)) => ζ ≤ k ∧ ∀ y ∈ l.take ζ, y.page ≠ x.page) (fun (ζ : (Nat)) => k - ζ) (0) (⟨Nat.zero_le _, by simp⟩) Zm Zm rfl tk ?_
       rintro j hI
       try simp only [List.cons_append, List.nil_append, List.append_assoc, List.append_eq] at hI ⊢
       try dsimp only at hI ⊢
       obtain ⟨hj, hjo⟩ := hI
       by_cases hjk : j < k
       ·obtain ⟨b3, off3, C3, T3, fr3, f3, hb3, hfit3, hc3⟩ := h.get (show j < l.length by omega)
        cases f3
        rw [hb] at hb3
        cases hb3
        have htj := List.take_succ_eq_append_getElem (show j < l.length by omega)
        have hjm : l[j]'(by omega) ∈ l.take k := by
         rw [List.mem_take_iff_getElem]
         exact ⟨j, by omega, rfl⟩
        generalize hZ : l[j]'(by omega) = z at *
        by_cases hp : z.page = x.page
        ·rw [hx (x.page ∉ psTo l k) (fun e => (hkx e).1) (fun e => e (psTo_mem.2 ⟨z, hjm, hp⟩))]
         repeat' (first | (refine Zg ?_; first | (refine Ze ?_; refine qQ ?_) | refine Zj ?_) | refine Za ?_ | (refine Zh ?_; refine Zq ?_) | (refine Zi ?_; refine Zr ?_) | intro _)
         exact qE ⟨rfl, rfl, rfl⟩
        ·have hjn : ∀ y ∈ l.take (j + 1), y.page ≠ x.page := by
           intro y hy
           rw [htj] at hy
           rcases List.mem_append.1 hy with hy | hy
           ·exact hjo y hy
           ·rw [List.mem_singleton.1 hy]; exact hp
         repeat' (first | (refine Zg ?_; first | (refine Ze ?_; refine qQ ?_) | refine Zj ?_) | refine Za ?_ | (refine Zh ?_; refine Zq ?_) | (refine Zi ?_; refine Zr ?_) | intro _)
         refine Zp (j + 1) (⟨hjk, hjn⟩) Zm Zm rfl tk inferInstance (by first | omega | (dsimp only; omega))
       ·have hj2 : j = k := by omega
        subst hj2
        have hke : kidOk j (psTo l j) x = true := decide_eq_true ⟨fun e => by obtain ⟨y, hy, he⟩ := psTo_mem.1 e; exact hjo y hy he, p0, p6, ht, .inl (by omega)⟩
        rw [hke, Bool.true_and] at hs
        have hs' : Ym n rt ltK l (j + 1) = true := hs
        repeat' (first | (refine Zg ?_; first | (refine Ze ?_; refine qQ ?_) | refine Zj ?_) | refine Za ?_ | (refine Zh ?_; refine Zq ?_) | (refine Zi ?_; refine Zr ?_) | intro _)
        refine Zp (j + 1) (⟨hlt, hs'⟩) Zm Zm rfl tk inferInstance (by first | omega | (dsimp only; omega))
      ·rw [decide_eq_false hcm, Bool.and_false] at hs
       have hcm2 : ¬ (y.t * 65536 + y.id < x.t * 65536 + x.id) := fun h => hcm (hor.2 h)
       rw [hfin hs]
       simp only [Bool.and_false]
       repeat' (first | (refine Zg ?_; first | (refine Ze ?_; refine qQ ?_) | refine Zj ?_) | refine Za ?_ | (refine Zh ?_; refine Zq ?_) | (refine Zi ?_; refine Zr ?_) | intro _)
       refine ZD (Zo _ _ _) ZZ ?_
       all_goals (refine rFa 0 ?_; refine rLd 1 ?_; refine rCm 2 ?_; refine ZO 3 ?_; (first | refine Zc 4 ?_ | refine Zb 4 ?_ | refine wFa 4 ?_); (first | refine Zc 5 ?_ | refine Zb 5 ?_ | refine wLd 5 ?_); (first | refine Zc 6 ?_ | refine Zb 6 ?_ | refine wCm 6 ?_); refine rPk 7 ?_; refine ZO 8 ?_; (first | refine Zc 9 ?_ | refine Zb 9 ?_ | refine wFa 9 ?_); (first | refine Zc 10 ?_ | refine Zb 10 ?_ | refine wFa 10 ?_); (first | refine Zc 11 ?_ | refine Zb 11 ?_ | refine wLd 11 ?_))
       all_goals (first | refine Zc 12 ?_ | refine Zb 12 ?_ | (refine Zn (i := 12) ?_; ((try refine Zk ?_); (first | (refine Zd (.func 54) ?_; refine qC rfl rfl (YE _ _) ?_; rintro v ρ' L' hle ⟨rfl, rfl, rfl⟩ <;> (try simp only [kM, kN, kO, hd])) | (refine Zj ?_; try intro _)) <;> ((try simp only [kM, kN, kO]); refine Za ?_; refine Zl ?_))))
       all_goals ((first | refine Zc 13 ?_ | refine Zb 13 ?_ | refine wUn 13 ?_); refine rPk 14 ?_; refine ZO 15 ?_; (first | refine Zc 16 ?_ | refine Zb 16 ?_ | refine ZU 16 ?_); (first | refine Zc 17 ?_ | refine Zb 17 ?_ | refine wCm 17 ?_); (first | refine Zc 18 ?_ | refine Zb 18 ?_ | refine ZU 18 ?_); (first | refine Zc 19 ?_ | refine Zb 19 ?_ | refine wFa 19 ?_); (first | refine Zc 20 ?_ | refine Zb 20 ?_ | refine wLd 20 ?_); (first | refine Zc 21 ?_ | refine Zb 21 ?_ | refine wBu 21 ?_); (first | refine Zc 22 ?_ | refine Zb 22 ?_ | refine wCm 22 ?_); (first | refine Zc 23 ?_ | refine Zb 23 ?_ | refine wPk 23 ?_); refine rPk 24 ?_; refine ZO 25 ?_; (first | refine Zc 26 ?_ | refine Zb 26 ?_ | refine ZU 26 ?_); (first | refine Zc 27 ?_ | refine Zb 27 ?_ | refine wCm 27 ?_); (first | refine Zc 28 ?_ | refine Zb 28 ?_ | refine ZU 28 ?_); (first | refine Zc 29 ?_ | refine Zb 29 ?_ | refine ZU 29 ?_); (first | refine Zc 30 ?_ | refine Zb 30 ?_ | refine ZU 30 ?_); (first | refine Zc 31 ?_ | refine Zb 31 ?_ | refine wSb 31 ?_); (first | refine Zc 32 ?_ | refine Zb 32 ?_ | refine wIa 32 ?_); (first | refine Zc 33 ?_ | refine Zb 33 ?_ | refine wFa 33 ?_); (first | refine Zc 34 ?_ | refine Zb 34 ?_ | refine wLd 34 ?_); (first | refine Zc 36 ?_ | refine Zb 36 ?_ | refine wFa 36 ?_); (first | refine Zc 37 ?_ | refine Zb 37 ?_ | refine wLd 37 ?_))
       all_goals (first | refine Zc 35 ?_ | refine Zb 35 ?_ | (refine Zn (i := 35) ?_; ((try refine Zk ?_); (first | (refine Zd (.func 53) ?_; refine qC rfl rfl (Yy _ y.t y.id hrt2.1 hrt2.2 hidp) ?_; rintro v ρ' L' hle ⟨rfl, rfl, rfl⟩ <;> (try simp only [kM, kN, kO])) | (refine Zd (.func 53) ?_; refine qC rfl rfl (Yy _ x.t x.id ht.1 ht.2 hidk) ?_; rintro v ρ' L' hle ⟨rfl, rfl, rfl⟩ <;> (try simp only [kM, kN, kO])) | (refine Zj ?_; try intro _)) <;> ((try simp only [kM, kN, kO]); refine Za ?_; refine Zl ?_))))
       all_goals (first | refine Zc 38 ?_ | refine Zb 38 ?_ | (refine Zn (i := 38) ?_; ((try refine Zk ?_); (first | (refine Zd (.func 53) ?_; refine qC rfl rfl (Yy _ y.t y.id hrt2.1 hrt2.2 hidp) ?_; rintro v ρ' L' hle ⟨rfl, rfl, rfl⟩ <;> (try simp only [kM, kN, kO])) | (refine Zd (.func 53) ?_; refine qC rfl rfl (Yy _ x.t x.id ht.1 ht.2 hidk) ?_; rintro v ρ' L' hle ⟨rfl, rfl, rfl⟩ <;> (try simp only [kM, kN, kO])) | (refine Zj ?_; try intro _)) <;> ((try simp only [kM, kN, kO]); refine Za ?_; refine Zl ?_))))
       all_goals (refine ZR ?_; (first | refine Zc 39 ?_ | refine Zb 39 ?_ | refine wCm 39 ?_); (first | refine Zc 40 ?_ | refine Zb 40 ?_ | refine wPk 40 ?_); refine rPk 41 ?_; refine ZH ?_)
       repeat' (first | (refine Zg ?_; first | (refine Ze ?_; refine qQ ?_) | refine Zj ?_) | refine Za ?_ | (refine Zh ?_; refine Zq ?_) | (refine Zi ?_; refine Zr ?_) | intro _)
       exact qE ⟨rfl, rfl, rfl⟩
    ·have hd : decide (0 ≤ x.t ∧ x.t < 3) = false := decide_eq_false ht
     rw [hx (0 ≤ x.t ∧ x.t < 3) (fun e => (hkx e).2.2.2.1) ht]
     repeat' (first | (refine Zg ?_; first | (refine Ze ?_; refine qQ ?_) | refine Zj ?_) | refine Za ?_ | (refine Zh ?_; refine Zq ?_) | (refine Zi ?_; refine Zr ?_) | intro _)
     refine ZD (Zo _ _ _) ZZ ?_
     all_goals (refine rFa 0 ?_; refine rLd 1 ?_; refine rCm 2 ?_; refine ZO 3 ?_; (first | refine Zc 4 ?_ | refine Zb 4 ?_ | refine wFa 4 ?_); (first | refine Zc 5 ?_ | refine Zb 5 ?_ | refine wLd 5 ?_); (first | refine Zc 6 ?_ | refine Zb 6 ?_ | refine wCm 6 ?_); refine rPk 7 ?_; refine ZO 8 ?_; (first | refine Zc 9 ?_ | refine Zb 9 ?_ | refine wFa 9 ?_); (first | refine Zc 10 ?_ | refine Zb 10 ?_ | refine wFa 10 ?_); (first | refine Zc 11 ?_ | refine Zb 11 ?_ | refine wLd 11 ?_))
     all_goals (first | refine Zc 12 ?_ | refine Zb 12 ?_ | (refine Zn (i := 12) ?_; ((try refine Zk ?_); (first | (refine Zd (.func 54) ?_; refine qC rfl rfl (YE _ _) ?_; rintro v ρ' L' hle ⟨rfl, rfl, rfl⟩ <;> (try simp only [kM, kN, kO, hd])) | (refine Zj ?_; try intro _)) <;> ((try simp only [kM, kN, kO]); refine Za ?_; refine Zl ?_))))
     all_goals ((first | refine Zc 13 ?_ | refine Zb 13 ?_ | refine wUn 13 ?_); refine rPk 14 ?_; refine ZO 15 ?_; (first | refine Zc 16 ?_ | refine Zb 16 ?_ | refine ZU 16 ?_); (first | refine Zc 17 ?_ | refine Zb 17 ?_ | refine wCm 17 ?_); (first | refine Zc 18 ?_ | refine Zb 18 ?_ | refine ZU 18 ?_); (first | refine Zc 19 ?_ | refine Zb 19 ?_ | refine wFa 19 ?_); (first | refine Zc 20 ?_ | refine Zb 20 ?_ | refine wLd 20 ?_); (first | refine Zc 21 ?_ | refine Zb 21 ?_ | refine wBu 21 ?_); (first | refine Zc 22 ?_ | refine Zb 22 ?_ | refine wCm 22 ?_); (first | refine Zc 23 ?_ | refine Zb 23 ?_ | refine wPk 23 ?_); refine rPk 24 ?_; refine ZO 25 ?_; (first | refine Zc 26 ?_ | refine Zb 26 ?_ | refine ZU 26 ?_); (first | refine Zc 27 ?_ | refine Zb 27 ?_ | refine wCm 27 ?_); (first | refine Zc 28 ?_ | refine Zb 28 ?_ | refine ZU 28 ?_); (first | refine Zc 29 ?_ | refine Zb 29 ?_ | refine ZU 29 ?_); (first | refine Zc 30 ?_ | refine Zb 30 ?_ | refine ZU 30 ?_); (first | refine Zc 31 ?_ | refine Zb 31 ?_ | refine wSb 31 ?_); (first | refine Zc 32 ?_ | refine Zb 32 ?_ | refine wIa 32 ?_); (first | refine Zc 33 ?_ | refine Zb 33 ?_ | refine wFa 33 ?_); (first | refine Zc 34 ?_ | refine Zb 34 ?_ | refine wLd 34 ?_); (first | refine Zc 36 ?_ | refine Zb 36 ?_ | refine wFa 36 ?_); (first | refine Zc 37 ?_ | refine Zb 37 ?_ | refine wLd 37 ?_))
     all_goals (first | refine Zc 35 ?_ | refine Zb 35 ?_ | (refine Zn (i := 35) ?_; ((try refine Zk ?_); (first | (refine Zj ?_; try intro _)) <;> ((try simp only [kM, kN, kO]); refine Za ?_; refine Zl ?_))))
     all_goals (first | refine Zc 38 ?_ | refine Zb 38 ?_ | (refine Zn (i := 38) ?_; ((try refine Zk ?_); (first | (refine Zj ?_; try intro _)) <;> ((try simp only [kM, kN, kO]); refine Za ?_; refine Zl ?_))))
     all_goals (refine ZR ?_; (first | refine Zc 39 ?_ | refine Zb 39 ?_ | refine wCm 39 ?_); (first | refine Zc 40 ?_ | refine Zb 40 ?_ | refine wPk 40 ?_); refine rPk 41 ?_; refine ZH ?_)
     repeat' (first | (refine Zg ?_; first | (refine Ze ?_; refine qQ ?_) | refine Zj ?_) | refine Za ?_ | (refine Zh ?_; refine Zq ?_) | (refine Zi ?_; refine Zr ?_) | intro _)
     exact qE ⟨rfl, rfl, rfl⟩
   ·rw [hx (x.page < 64) (fun e => (hkx e).2.2.1) p6]
    repeat' (first | (refine Zg ?_; first | (refine Ze ?_; refine qQ ?_) | refine Zj ?_) | refine Za ?_ | (refine Zh ?_; refine Zq ?_) | (refine Zi ?_; refine Zr ?_) | intro _)
    refine ZD (Zo _ _ _) ZZ ?_
    all_goals (refine rFa 0 ?_; refine rLd 1 ?_; refine rCm 2 ?_; refine ZO 3 ?_; (first | refine Zc 4 ?_ | refine Zb 4 ?_ | refine wFa 4 ?_); (first | refine Zc 5 ?_ | refine Zb 5 ?_ | refine wLd 5 ?_); (first | refine Zc 6 ?_ | refine Zb 6 ?_ | refine wCm 6 ?_); refine rPk 7 ?_; refine ZO 8 ?_; (first | refine Zc 9 ?_ | refine Zb 9 ?_ | refine wFa 9 ?_); (first | refine Zc 10 ?_ | refine Zb 10 ?_ | refine wFa 10 ?_); (first | refine Zc 11 ?_ | refine Zb 11 ?_ | refine wLd 11 ?_))
    all_goals (first | refine Zc 12 ?_ | refine Zb 12 ?_ | (refine Zn (i := 12) ?_; ((try refine Zk ?_); (first | (refine Zj ?_; try intro _)) <;> ((try simp only [kM, kN, kO]); refine Za ?_; refine Zl ?_))))
    all_goals ((first | refine Zc 13 ?_ | refine Zb 13 ?_ | refine wUn 13 ?_); refine rPk 14 ?_; refine ZO 15 ?_; (first | refine Zc 16 ?_ | refine Zb 16 ?_ | refine ZU 16 ?_); (first | refine Zc 17 ?_ | refine Zb 17 ?_ | refine wCm 17 ?_); (first | refine Zc 18 ?_ | refine Zb 18 ?_ | refine ZU 18 ?_); (first | refine Zc 19 ?_ | refine Zb 19 ?_ | refine wFa 19 ?_); (first | refine Zc 20 ?_ | refine Zb 20 ?_ | refine wLd 20 ?_); (first | refine Zc 21 ?_ | refine Zb 21 ?_ | refine wBu 21 ?_); (first | refine Zc 22 ?_ | refine Zb 22 ?_ | refine wCm 22 ?_); (first | refine Zc 23 ?_ | refine Zb 23 ?_ | refine wPk 23 ?_); refine rPk 24 ?_; refine ZO 25 ?_; (first | refine Zc 26 ?_ | refine Zb 26 ?_ | refine ZU 26 ?_); (first | refine Zc 27 ?_ | refine Zb 27 ?_ | refine wCm 27 ?_); (first | refine Zc 28 ?_ | refine Zb 28 ?_ | refine ZU 28 ?_); (first | refine Zc 29 ?_ | refine Zb 29 ?_ | refine ZU 29 ?_); (first | refine Zc 30 ?_ | refine Zb 30 ?_ | refine ZU 30 ?_); (first | refine Zc 31 ?_ | refine Zb 31 ?_ | refine wSb 31 ?_); (first | refine Zc 32 ?_ | refine Zb 32 ?_ | refine wIa 32 ?_); (first | refine Zc 33 ?_ | refine Zb 33 ?_ | refine wFa 33 ?_); (first | refine Zc 34 ?_ | refine Zb 34 ?_ | refine wLd 34 ?_); (first | refine Zc 36 ?_ | refine Zb 36 ?_ | refine wFa 36 ?_); (first | refine Zc 37 ?_ | refine Zb 37 ?_ | refine wLd 37 ?_))
    all_goals (first | refine Zc 35 ?_ | refine Zb 35 ?_ | (refine Zn (i := 35) ?_; ((try refine Zk ?_); (first | (refine Zj ?_; try intro _)) <;> ((try simp only [kM, kN, kO]); refine Za ?_; refine Zl ?_))))
    all_goals (first | refine Zc 38 ?_ | refine Zb 38 ?_ | (refine Zn (i := 38) ?_; ((try refine Zk ?_); (first | (refine Zj ?_; try intro _)) <;> ((try simp only [kM, kN, kO]); refine Za ?_; refine Zl ?_))))
    all_goals (refine ZR ?_; (first | refine Zc 39 ?_ | refine Zb 39 ?_ | refine wCm 39 ?_); (first | refine Zc 40 ?_ | refine Zb 40 ?_ | refine wPk 40 ?_); refine rPk 41 ?_; refine ZH ?_)
    repeat' (first | (refine Zg ?_; first | (refine Ze ?_; refine qQ ?_) | refine Zj ?_) | refine Za ?_ | (refine Zh ?_; refine Zq ?_) | (refine Zi ?_; refine Zr ?_) | intro _)
    exact qE ⟨rfl, rfl, rfl⟩
  ·rw [hx (0 < x.page) (fun e => (hkx e).2.1) p0]
   repeat' (first | (refine Zg ?_; first | (refine Ze ?_; refine qQ ?_) | refine Zj ?_) | refine Za ?_ | (refine Zh ?_; refine Zq ?_) | (refine Zi ?_; refine Zr ?_) | intro _)
   refine ZD (Zo _ _ _) ZZ ?_
   all_goals (refine rFa 0 ?_; refine rLd 1 ?_; refine rCm 2 ?_; refine ZO 3 ?_; (first | refine Zc 4 ?_ | refine Zb 4 ?_ | refine wFa 4 ?_); (first | refine Zc 5 ?_ | refine Zb 5 ?_ | refine wLd 5 ?_); (first | refine Zc 6 ?_ | refine Zb 6 ?_ | refine wCm 6 ?_); refine rPk 7 ?_; refine ZO 8 ?_; (first | refine Zc 9 ?_ | refine Zb 9 ?_ | refine wFa 9 ?_); (first | refine Zc 10 ?_ | refine Zb 10 ?_ | refine wFa 10 ?_); (first | refine Zc 11 ?_ | refine Zb 11 ?_ | refine wLd 11 ?_))
   all_goals (first | refine Zc 12 ?_ | refine Zb 12 ?_ | (refine Zn (i := 12) ?_; ((try refine Zk ?_); (first | (refine Zj ?_; try intro _)) <;> ((try simp only [kM, kN, kO]); refine Za ?_; refine Zl ?_))))
   all_goals ((first | refine Zc 13 ?_ | refine Zb 13 ?_ | refine wUn 13 ?_); refine rPk 14 ?_; refine ZO 15 ?_; (first | refine Zc 16 ?_ | refine Zb 16 ?_ | refine ZU 16 ?_); (first | refine Zc 17 ?_ | refine Zb 17 ?_ | refine wCm 17 ?_); (first | refine Zc 18 ?_ | refine Zb 18 ?_ | refine ZU 18 ?_); (first | refine Zc 19 ?_ | refine Zb 19 ?_ | refine wFa 19 ?_); (first | refine Zc 20 ?_ | refine Zb 20 ?_ | refine wLd 20 ?_); (first | refine Zc 21 ?_ | refine Zb 21 ?_ | refine wBu 21 ?_); (first | refine Zc 22 ?_ | refine Zb 22 ?_ | refine wCm 22 ?_); (first | refine Zc 23 ?_ | refine Zb 23 ?_ | refine wPk 23 ?_); refine rPk 24 ?_; refine ZO 25 ?_; (first | refine Zc 26 ?_ | refine Zb 26 ?_ | refine ZU 26 ?_); (first | refine Zc 27 ?_ | refine Zb 27 ?_ | refine wCm 27 ?_); (first | refine Zc 28 ?_ | refine Zb 28 ?_ | refine ZU 28 ?_); (first | refine Zc 29 ?_ | refine Zb 29 ?_ | refine ZU 29 ?_); (first | refine Zc 30 ?_ | refine Zb 30 ?_ | refine ZU 30 ?_); (first | refine Zc 31 ?_ | refine Zb 31 ?_ | refine wSb 31 ?_); (first | refine Zc 32 ?_ | refine Zb 32 ?_ | refine wIa 32 ?_); (first | refine Zc 33 ?_ | refine Zb 33 ?_ | refine wFa 33 ?_); (first | refine Zc 34 ?_ | refine Zb 34 ?_ | refine wLd 34 ?_); (first | refine Zc 36 ?_ | refine Zb 36 ?_ | refine wFa 36 ?_); (first | refine Zc 37 ?_ | refine Zb 37 ?_ | refine wLd 37 ?_))
   all_goals (first | refine Zc 35 ?_ | refine Zb 35 ?_ | (refine Zn (i := 35) ?_; ((try refine Zk ?_); (first | (refine Zj ?_; try intro _)) <;> ((try simp only [kM, kN, kO]); refine Za ?_; refine Zl ?_))))
   all_goals (first | refine Zc 38 ?_ | refine Zb 38 ?_ | (refine Zn (i := 38) ?_; ((try refine Zk ?_); (first | (refine Zj ?_; try intro _)) <;> ((try simp only [kM, kN, kO]); refine Za ?_; refine Zl ?_))))
   all_goals (refine ZR ?_; (first | refine Zc 39 ?_ | refine Zb 39 ?_ | refine wCm 39 ?_); (first | refine Zc 40 ?_ | refine Zb 40 ?_ | refine wPk 40 ?_); refine rPk 41 ?_; refine ZH ?_)
   repeat' (first | (refine Zg ?_; first | (refine Ze ?_; refine qQ ?_) | refine Zj ?_) | refine Za ?_ | (refine Zh ?_; refine Zq ?_) | (refine Zi ?_; refine Zr ?_) | intro _)
   exact qE ⟨rfl, rfl, rfl⟩
 ·have hk2 : k = n := by omega
  subst hk2
  rw [hok, Bool.and_true]
  by_cases h2 : 1 < k
  ·by_cases h4 : k ≤ 4
   ·rw [decide_eq_true h4, decide_eq_true h2]
    repeat' (first | (refine Zg ?_; first | (refine Ze ?_; refine qQ ?_) | refine Zj ?_) | refine Za ?_ | (refine Zh ?_; refine Zq ?_) | (refine Zi ?_; refine Zr ?_) | intro _)
    exact qE ⟨rfl, rfl, rfl⟩
   ·rw [decide_eq_false h4, Bool.and_false]
    repeat' (first | (refine Zg ?_; first | (refine Ze ?_; refine qQ ?_) | refine Zj ?_) | refine Za ?_ | (refine Zh ?_; refine Zq ?_) | (refine Zi ?_; refine Zr ?_) | intro _)
    exact qE ⟨rfl, rfl, rfl⟩
  ·rw [decide_eq_false h2, Bool.false_and]
   repeat' (first | (refine Zg ?_; first | (refine Ze ?_; refine qQ ?_) | refine Zj ?_) | refine Za ?_ | (refine Zh ?_; refine Zq ?_) | (refine Zi ?_; refine Zr ?_) | intro _)
   exact qE ⟨rfl, rfl, rfl⟩
theorem right_spec (ρ : Hp) (v : CV) (c : Yr) (h : CIn ρ v c.rows c.kids) (hir : ∀ r ∈ c.rows, r.id < 65536) (hik : ∀ k ∈ c.kids, k.id < 65536) : Spec Tryz.prog 13 [.agg ⟨Yt c.kind v⟩] ρ [] (fun r ρ' L' => r = .bool (ZN c) ∧ ρ' = ρ ∧ L' = []) := by
 obtain ⟨kind, rows, kids⟩ := c
 obtain ⟨ra, rn, rc, ka, kn, kc⟩ := v
 obtain ⟨hr, hk, hrb, hkb, hrc, hkc⟩ := h
 dsimp only at hr hk hrb hkb hrc hkc hir hik
 have hrl := hr.len
 have hkl := hk.len
 have hrs := rowsR_spec ρ ra rn rc rows hr hrb hir
 have hks := kidsR_spec ρ ka kn kc kids hk hkb hkc hik
 generalize hq : ZN ⟨kind, rows, kids⟩ = q
 unfold ZN at hq
 simp only [hrl, hkl] at hq
 refine Zf Tryz.func13 rfl rfl rfl fun u R => ?_
 simp only [Zv, List.cons_append, List.nil_append]
 by_cases k0 : kind = 0
 ·rw [if_pos k0] at hq
  by_cases hz : rn = 0
  ·by_cases hz2 : kn = 0
   ·rw [decide_eq_true (show rn + kn = 0 by omega)] at hq
    subst hq
    repeat' (first | (refine Zg ?_; first | (refine Ze ?_; refine qQ ?_) | refine Zj ?_) | refine Za ?_ | (refine Zh ?_; refine Zq ?_) | (refine Zi ?_; refine Zr ?_) | intro _)
    exact qE ⟨rfl, rfl, rfl⟩
   ·rw [decide_eq_false (show ¬ rn + kn = 0 by omega)] at hq
    subst hq
    repeat' (first | (refine Zg ?_; first | (refine Ze ?_; refine qQ ?_) | refine Zj ?_) | refine Za ?_ | (refine Zh ?_; refine Zq ?_) | (refine Zi ?_; refine Zr ?_) | intro _)
    exact qE ⟨rfl, rfl, rfl⟩
  ·rw [decide_eq_false (show ¬ rn + kn = 0 by omega)] at hq
   subst hq
   repeat' (first | (refine Zg ?_; first | (refine Ze ?_; refine qQ ?_) | refine Zj ?_) | refine Za ?_ | (refine Zh ?_; refine Zq ?_) | (refine Zi ?_; refine Zr ?_) | intro _)
   exact qE ⟨rfl, rfl, rfl⟩
 ·rw [if_neg k0] at hq
  by_cases k1 : kind = 1
  ·rw [if_pos k1] at hq
   by_cases hz : kn = 0
   ·rw [decide_eq_true hz, Bool.true_and] at hq
    rw [hq] at hrs
    repeat' (first | (refine Zd (.func 28) ?_; refine qC rfl rfl (hrs) ?_; rintro v ρ' L' hle ⟨rfl, rfl, rfl⟩ <;> (try simp only [kM, kN, kO])) | (refine Zg ?_; first | (refine Ze ?_; refine qQ ?_) | refine Zj ?_) | refine Za ?_ | (refine Zh ?_; refine Zq ?_) | (refine Zi ?_; refine Zr ?_) | intro _)
    exact qE ⟨rfl, rfl, rfl⟩
   ·rw [decide_eq_false hz, Bool.false_and] at hq
    subst hq
    repeat' (first | (refine Zg ?_; first | (refine Ze ?_; refine qQ ?_) | refine Zj ?_) | refine Za ?_ | (refine Zh ?_; refine Zq ?_) | (refine Zi ?_; refine Zr ?_) | intro _)
    exact qE ⟨rfl, rfl, rfl⟩
  ·rw [if_neg k1] at hq
   by_cases k2 : kind = 2
   ·rw [if_pos k2] at hq
    by_cases hz : rn = 0
    ·rw [decide_eq_true hz, Bool.true_and] at hq
     rw [hq] at hks
     repeat' (first | (refine Zd (.func 29) ?_; refine qC rfl rfl (hks) ?_; rintro v ρ' L' hle ⟨rfl, rfl, rfl⟩ <;> (try simp only [kM, kN, kO])) | (refine Zg ?_; first | (refine Ze ?_; refine qQ ?_) | refine Zj ?_) | refine Za ?_ | (refine Zh ?_; refine Zq ?_) | (refine Zi ?_; refine Zr ?_) | intro _)
     exact qE ⟨rfl, rfl, rfl⟩
    ·rw [decide_eq_false hz, Bool.false_and] at hq
     subst hq
     repeat' (first | (refine Zg ?_; first | (refine Ze ?_; refine qQ ?_) | refine Zj ?_) | refine Za ?_ | (refine Zh ?_; refine Zq ?_) | (refine Zi ?_; refine Zr ?_) | intro _)
     exact qE ⟨rfl, rfl, rfl⟩
   ·rw [if_neg k2] at hq
    subst hq
    repeat' (first | (refine Zg ?_; first | (refine Ze ?_; refine qQ ?_) | refine Zj ?_) | refine Za ?_ | (refine Zh ?_; refine Zq ?_) | (refine Zi ?_; refine Zr ?_) | intro _)
    exact qE ⟨rfl, rfl, rfl⟩
theorem keyR_spec (ρ : Hp) (t : Int) (id : Nat) (h0 : 0 ≤ t) (h3 : t < 256) (hid : id < 65536) :
  Spec Tryz.prog 68 [.agg ⟨keyV t id⟩] ρ [] (fun r ρ' L' => ρ' = ρ ∧ ∃ b, r = .slice (some ⟨b, 0, none⟩) 3 3 ∧ L' = [[(b, .cells ⟨(Xf t id).map Zs⟩ 5 (0, 0))]]) := by
 refine Zf Tryz.func68 rfl rfl rfl fun u R => ?_
 simp only [Zv, List.cons_append, List.nil_append]
 repeat' (first | (refine ZC rfl rfl rfl rfl (by simp) rfl rfl (fun _ => ?_); simp only [tB_eq h0 h3, u8_wrap]) | (refine Zg ?_; first | (refine Ze ?_; refine qQ ?_) | refine Zj ?_) | refine Za ?_ | (refine Zh ?_; refine Zq ?_) | (refine Zi ?_; refine Zr ?_) | intro _)
 have e : [Zs (tB t), Value.int .u8 ((id : Int) / 2 ^ 8), Zs (UInt8.ofNat id)] = (Xf t id).map Zs := by
  have e1 : (id : Int) / 2 ^ 8 = ((id / 256 : Nat) : Int) := by omega
  have e2 : Value.int .u8 ((id / 256 : Nat) : Int) = Zs (UInt8.ofNat (id / 256)) := by
   have := u8_wrap (id / 256)
   rwa [Wo (by simp only [lo, hi]; omega)] at this
  rw [e1, e2]
  simp [Xf, be]
 rw [e]
 exact qE ⟨rfl, _, rfl, rfl⟩
theorem shr_byte (V m : Nat) : Value.int .u8 (IntKind.u8.wrap ((V : Int) / 2 ^ (8 * m))) = Zs (UInt8.ofNat (V / 256 ^ m)) := by
 have h2 : (2 ^ (8 * m) : Nat) = 256 ^ m := by rw [Nat.pow_mul]
 have h3 : ((2 : Int) ^ (8 * m)) = ((2 ^ (8 * m) : Nat) : Int) := by rw [Int.natCast_pow]; rfl
 rw [h3, h2, ← Int.natCast_ediv, u8_wrap]
theorem be8_take_succ (V j : Nat) (hj : j < 8) : (be 8 V).take (j + 1) = (be 8 V).take j ++ [UInt8.ofNat (V / 256 ^ (7 - j))] := by
 rw [List.take_succ_eq_append_getElem (by rw [ZJ]; exact hj)]
 congr 2
 rcases (show j = 0 ∨ j = 1 ∨ j = 2 ∨ j = 3 ∨ j = 4 ∨ j = 5 ∨ j = 6 ∨ j = 7 by omega) with rfl | rfl | rfl | rfl | rfl | rfl | rfl | rfl <;> rfl
theorem rowR6_spec (ρ : Hp) (r : Row) (hr : YI r = true) (hid : r.id < 65536) :
  Spec Tryz.prog 67 [.agg ⟨Yp r⟩] ρ [] (fun v ρ' L' => ρ.le ρ' ∧ ∃ sp, OwnS v (ZL r).length ((ZL r).map Zs) sp 1 ∧ L' = [Ye v ((ZL r).map Zs) sp 5]) := by
 obtain ⟨h0, h3, h8⟩ := rowOk_iff hr
 have hlb := lenB (n := r.note.length) (by omega)
 have hkl : (Xf r.t r.id).length = 3 := by simp [Xf, ZJ]
 refine Zf Tryz.func67 rfl rfl rfl fun u R => ?_
 simp only [Zv, List.cons_append, List.nil_append]
 repeat' (first | (refine Zd (.func 68) ?_; refine qC rfl rfl (keyR_spec _ r.t r.id h0 (by omega) hid) ?_; rintro v ρ' L' hle ⟨rfl, bk, rfl, rfl⟩ <;> (try simp only [kM, kN, kO])) | (refine Zg ?_; first | (refine Ze ?_; refine qQ ?_) | refine Zj ?_) | refine Za ?_ | (refine Zh ?_; refine Zq ?_) | (refine Zi ?_; refine Zr ?_) | intro _)
 rename_i b1
 rw [show (Xf r.t r.id).map Zs = (Xf r.t r.id ++ (be 8 (vN r.val)).take 0).map Zs by simp, own_chunk bk 3 3]
 have hown0 : OwnS (.slice (some ⟨bk, 0, none⟩) 3 3) (3 + 0) ((Xf r.t r.id ++ (be 8 (vN r.val)).take 0).map Zs) [] 1 := ⟨.inr ⟨bk, 3, rfl, by simp [hkl], by simp [hkl], Nat.le_refl _⟩⟩
 generalize Value.slice (some ⟨bk, 0, none⟩) 3 3 = v0 at *
 refine ZB [(1, _), (2, _)] (fun (ζ : (Nat) × (Value) × (List Value)) => [(4, .int .i64 (7 - (ζ.1 : Int))), (3, ζ.2.1)]) (fun (ζ : (Nat) × (Value) × (List Value)) => ρ') (fun (ζ : (Nat) × (Value) × (List Value)) => [Ye ζ.2.1 ((Xf r.t r.id ++ (be 8 (vN r.val)).take ζ.1).map Zs) ζ.2.2 5]) (fun (ζ : (Nat) × (Value) × (List Value)) => ζ.1 ≤ 8 ∧ OwnS ζ.2.1 (3 + ζ.1) ((Xf r.t r.id ++ (be 8 (vN r.val)).take ζ.1).map Zs) ζ.2.2 1) (fun (ζ : (Nat) × (Value) × (List Value)) => 8 - ζ.1) ((0, v0, [])) (⟨Nat.zero_le _, hown0⟩) Zm Zm rfl tk ?_
 rintro ⟨j, v, sp⟩ hI
 try simp only [List.cons_append, List.nil_append, List.append_assoc, List.append_eq] at hI ⊢
 try dsimp only at hI ⊢
 obtain ⟨hj, hown⟩ := hI
 by_cases hj8 : j < 8
 ·have hsh := shr_byte (vN r.val) (7 - j)
  have hts := be8_take_succ (vN r.val) j hj8
  have hxx : (Xf r.t r.id ++ (be 8 (vN r.val)).take j).map Zs ++ [Zs (UInt8.ofNat (vN r.val / 256 ^ (7 - j)))] = (Xf r.t r.id ++ (be 8 (vN r.val)).take (j + 1)).map Zs := by rw [hts]; simp
  repeat' (first | (refine iCv ?_; refine Yb (y_conv (k := .u64) rfl) rfl rfl ?_; simp only [vN_eq]) | (refine iSr ?_; refine Yb (y_shr (c := 8 * (7 - j)) rfl rfl (by omega) (by simp only [IntKind.bits]; omega)) rfl rfl ?_) | (refine iCv ?_; refine Yb (y_conv (k := .u8) rfl) rfl rfl ?_; rw [hsh]) | (refine ZC rfl rfl rfl rfl (by simp) rfl rfl (fun _ => ?_)) | (refine Zg ?_; first | (refine Ze ?_; refine qQ ?_) | refine Zj ?_) | refine Za ?_ | (refine Zh ?_; refine Zq ?_) | (refine Zi ?_; refine Zr ?_) | intro _)
  refine Yh (ys := [Zs (UInt8.ofNat (vN r.val / 256 ^ (7 - j)))]) (m := 1) rfl rfl hown (hR := by infer_instance) SrcV.lit rfl rfl (by decide) rfl (by omega) (by omega) rfl (fun v2 sp2 hown2 => ?_)
  rw [hxx] at hown2 ⊢
  repeat' (first | (refine Zg ?_; first | (refine Ze ?_; refine qQ ?_) | refine Zj ?_) | refine Za ?_ | (refine Zh ?_; refine Zq ?_) | (refine Zi ?_; refine Zr ?_) | intro _)
  have e7 : (7 - (j : Int) - 1) = 7 - ((j + 1 : Nat) : Int) := by omega
  rw [e7]
  refine Zp (j + 1, v2, sp2) (⟨hj8, hown2⟩) Zm Zm rfl tk inferInstance (by first | omega | (dsimp only; omega))
 ·obtain rfl : j = 8 := by omega
  have e8 : (be 8 (vN r.val)).take 8 = be 8 (vN r.val) := List.take_of_length_le (by rw [ZJ]; exact Nat.le_refl _)
  rw [e8] at hown ⊢
  repeat' (first | (refine Zg ?_; first | (refine Ze ?_; refine qQ ?_) | refine Zj ?_) | refine Za ?_ | (refine Zh ?_; refine Zq ?_) | (refine Zi ?_; refine Zr ?_) | intro _)
  refine ZD (Zo _ _ ([[(b1, .cells ⟨Yp r⟩ 65 (0, 0))]])) (Zx (hT := tk) (Hp.le_refl _)) ?_
  all_goals (refine ZO 0 ?_; refine rFa 1 ?_; refine rLd 2 ?_; refine rBi 3 ?_; refine rCv 4 ?_; refine rFa 7 ?_; refine rLd 8 ?_)
  all_goals (refine Zn (i := 5) ?_; ((try refine Zk ?_); (first | (refine ZC rfl rfl rfl rfl (by simp) rfl rfl (fun _ => ?_); simp only [hlb]) | (refine Zj ?_; try intro _)) <;> ((try simp only [kM, kN, kO]); refine Za ?_; refine Zl ?_)))
  all_goals (refine Zn (i := 6) ?_; ((try refine Zk ?_); (first | (refine Yh (ys := [Zs (UInt8.ofNat r.note.length)]) (m := 1) rfl rfl hown (hR := by infer_instance) SrcV.lit rfl rfl (by decide) rfl (by omega) (by omega) rfl (fun v4 sp4 hown4 => ?_)) | (refine tl_app_str (l := r.note) rfl rfl hown4 (hR := by infer_instance) (by omega) rfl (fun v5 sp5 hown5 => ?_)) | (refine Zj ?_; try intro _)) <;> ((try simp only [kM, kN, kO]); refine Za ?_; refine Zl ?_)))
  all_goals (refine Zn (i := 9) ?_; ((try refine Zk ?_); (first | (refine Yh (ys := [Zs (UInt8.ofNat r.note.length)]) (m := 1) rfl rfl hown (hR := by infer_instance) SrcV.lit rfl rfl (by decide) rfl (by omega) (by omega) rfl (fun v4 sp4 hown4 => ?_)) | (refine tl_app_str (l := r.note) rfl rfl hown4 (hR := by infer_instance) (by omega) rfl (fun v5 sp5 hown5 => ?_)) | (refine Zj ?_; try intro _)) <;> ((try simp only [kM, kN, kO]); refine Za ?_; refine Zl ?_)))
  all_goals (refine ZR ?_; refine rAs 10 ?_; refine ZH ?_)
  have e : (Xf r.t r.id ++ be 8 (vN r.val)).map Zs ++ [Zs (UInt8.ofNat r.note.length)] ++ r.note.map Zs = (ZL r).map Zs := by simp [ZL]
  have e2 : 3 + 8 + 1 + r.note.length = (ZL r).length := by simp [ZL, hkl, ZJ]; omega
  rw [e] at hown5 ⊢
  repeat' (first | (refine Zg ?_; first | (refine Ze ?_; refine qQ ?_) | refine Zj ?_) | refine Za ?_ | (refine Zh ?_; refine Zq ?_) | (refine Zi ?_; refine Zr ?_) | intro _)
  rw [e2] at hown5
  exact qE ⟨Hp.le_refl _, sp5, hown5, rfl⟩
theorem be_take_sucQ (n x j : Nat) (h : j < n) : (be n x).take (j + 1) = (be n x).take j ++ [UInt8.ofNat (x / 256 ^ (n - 1 - j))] := by
 induction n generalizing j with
 | zero => omega
 | succ n ih =>
  rw [be]
  cases j with
  | zero => simp
  | succ j =>
   rw [List.take_succ_cons, List.take_succ_cons, ih j (by omega)]
   simp only [List.cons_append]
   rw [show n - 1 - j = n + 1 - 1 - (j + 1) by omega]
theorem high14_spec (ρ : Hp) (x n : Nat) (hz : x < 18446744073709551616) (hn : n ≤ 8) :
  Spec Tryz.prog 42 [.int .u64 (x : Nat), .int .i64 n] ρ [] (fun v ρ' L' => ρ.le ρ' ∧ ∃ a c, v = .slice a n c ∧ n ≤ c ∧ SIn ρ' Zs a n (be n x) ∧ L' = []) := by
 refine Zf Tryz.func42 rfl rfl rfl fun u R => ?_
 simp only [Zv, List.cons_append, List.nil_append]
 repeat' (first | (refine iBu ?_; refine Yb (Zy rfl) rfl rfl ?_) | (refine Zg ?_; first | (refine Ze ?_; refine qQ ?_) | refine Zj ?_) | refine Za ?_ | (refine Zh ?_; refine Zq ?_) | (refine Zi ?_; refine Zr ?_) | intro _)
 rw [show ((n : Int) - 1) = (n : Int) - 1 - ((0 : Nat) : Int) by omega]
 refine ZB [(0, _), (4, _)] (fun (ζ : (Nat) × (Value) × (List Value)) => [(6, .int .i64 ((n : Int) - 1 - (ζ.1 : Int))), (5, ζ.2.1)]) (fun (ζ : (Nat) × (Value) × (List Value)) => ρ) (fun (ζ : (Nat) × (Value) × (List Value)) => [Ye ζ.2.1 (((be n x).take ζ.1).map Zs) ζ.2.2 5]) (fun (ζ : (Nat) × (Value) × (List Value)) => ζ.1 ≤ n ∧ OwnS ζ.2.1 ζ.1 (((be n x).take ζ.1).map Zs) ζ.2.2 1) (fun (ζ : (Nat) × (Value) × (List Value)) => n - ζ.1) ((0, .slice none 0 0, [])) (⟨Nat.zero_le _, OwnS.nil 1⟩) Zm Zm rfl tk ?_
 rintro ⟨j, v, sp⟩ hI
 try simp only [List.cons_append, List.nil_append, List.append_assoc, List.append_eq] at hI ⊢
 try dsimp only at hI ⊢
 obtain ⟨hj, hown⟩ := hI
 by_cases hj8 : j < n
 ·have hsh := shr_byte x (n - 1 - j)
  have hts := be_take_sucQ n x j hj8
  have hxx : ((be n x).take j).map Zs ++ [Zs (UInt8.ofNat (x / 256 ^ (n - 1 - j)))] = ((be n x).take (j + 1)).map Zs := by rw [hts]; simp
  obtain ⟨va, vc, rfl, _⟩ := hown.slice
  repeat' (first | (refine iSr ?_; refine Yb (y_shr (c := 8 * (n - 1 - j)) rfl rfl (by omega) (by simp only [IntKind.bits]; omega)) rfl rfl ?_) | (refine iCv ?_; refine Yb (y_conv (k := .u8) rfl) rfl rfl ?_; rw [hsh]) | (refine ZC rfl rfl rfl rfl (by simp) rfl rfl (fun _ => ?_)) | (refine Yh (ys := [Zs (UInt8.ofNat (x / 256 ^ (n - 1 - j)))]) (m := 1) rfl rfl hown (hR := by infer_instance) SrcV.lit rfl rfl (by decide) rfl (by omega) (by omega) rfl (fun v2 sp2 hown2 => ?_); rw [hxx] at hown2 ⊢) | (refine iBu ?_; refine Yb (Zy rfl) rfl rfl ?_) | (refine Zg ?_; first | (refine Ze ?_; refine qQ ?_) | refine Zj ?_) | refine Za ?_ | (refine Zh ?_; refine Zq ?_) | (refine Zi ?_; refine Zr ?_) | intro _)
  have e7 : ((n : Int) - 1 - (j : Int) - 1) = (n : Int) - 1 - ((j + 1 : Nat) : Int) := by omega
  rw [e7]
  refine Zp (j + 1, v2, sp2) (⟨hj8, hown2⟩) Zm Zm rfl tk inferInstance (by first | omega | (dsimp only; omega))
 ·obtain rfl : j = n := by omega
  rw [show (be j x).take j = be j x from List.take_of_length_le (by rw [ZJ]; exact Nat.le_refl _)] at hown ⊢
  obtain ⟨va, vc, rfl, _⟩ := hown.slice
  repeat' (first | (refine iBu ?_; refine Yb (Zy rfl) rfl rfl ?_) | (refine Zg ?_; first | (refine Ze ?_; refine qQ ?_) | refine Zj ?_) | refine Za ?_ | (refine Zh ?_; refine Zq ?_) | (refine Zi ?_; refine Zr ?_) | intro _)
  refine Xd (Ye (.slice va j vc) ((be j x).map Zs) sp 5) (fun ρ3 hle3 hfz => ?_)
  obtain ⟨a3, c3, e3, hc3, hs3⟩ := hown.sIn hfz
  cases e3
  exact qE ⟨hle3, va, vc, rfl, hc3, hs3, rfl⟩
theorem at14_spec (ρ : Hp) (page slot part : Nat) (h1 : page < 64) (h2 : slot < 2) (h3 : part < 2) : Spec Tryz.prog 23 [.int .i64 page, .int .i64 slot, .int .i64 part] ρ [] (fun v ρ' L' => v = .int .i64 ((4 * page + 2 * slot + part : Nat) : Int) ∧ ρ' = ρ ∧ L' = []) := by
 refine Zf Tryz.func23 rfl rfl rfl fun u R => ?_
 simp only [Zv, List.cons_append, List.nil_append]
 repeat' (first | (refine iBu ?_; refine Yb (Zy rfl) rfl rfl ?_) | (refine Zg ?_; first | (refine Ze ?_; refine qQ ?_) | refine Zj ?_) | refine Za ?_ | (refine Zh ?_; refine Zq ?_) | (refine Zi ?_; refine Zr ?_) | intro _)
 have e : ((page : Int) * 2 + (slot : Int)) * 2 + (part : Int) = ((4 * page + 2 * slot + part : Nat) : Int) := by omega
 simp only [e]
 exact qE (L' := []) ⟨rfl, rfl, rfl⟩
theorem Xt (ρ : Hp) (a : Option Addr) (n c : Nat) (l : List UInt8) (h : SIn ρ Zs a n l) (h8 : n ≤ 8) :
  Spec Tryz.prog 40 [.slice a n c] ρ [] (fun z ρ' L' => z = .int .u64 (ZP l : Nat) ∧ ρ' = ρ ∧ L' = []) := by
 have hl := h.len
 refine Zf Tryz.func40 rfl rfl rfl fun u R => ?_
 simp only [Zv, List.cons_append, List.nil_append]
 repeat' (first | (refine iBu ?_; refine Yb (Zy rfl) rfl rfl ?_) | (refine Zg ?_; first | (refine Ze ?_; refine qQ ?_) | refine Zj ?_) | refine Za ?_ | (refine Zh ?_; refine Zq ?_) | (refine Zi ?_; refine Zr ?_) | intro _)
 refine ZB [(2, _), (6, _), (7, _)] (fun (ζ : (Nat) × (Nat)) => [(8, .int .i64 ζ.1), (3, .int .u64 ζ.2)]) (fun (ζ : (Nat) × (Nat)) => ρ) (fun (ζ : (Nat) × (Nat)) => []) (fun (ζ : (Nat) × (Nat)) => ζ.1 ≤ n ∧ ζ.2 = ZP (l.take ζ.1)) (fun (ζ : (Nat) × (Nat)) => n - ζ.1) ((0, 0)) (⟨Nat.zero_le _, rfl⟩) Zm Zm rfl tk ?_
 rintro ⟨k, m⟩ hI
 try simp only [List.cons_append, List.nil_append, List.append_assoc, List.append_eq] at hI ⊢
 try dsimp only at hI ⊢
 obtain ⟨hk, hm⟩ := hI
 by_cases hlt : k < n
 ·obtain ⟨b, off, C, T, fr, e1, hb, hc⟩ := h.get (show k < l.length by omega)
  have hts : l.take (k + 1) = l.take k ++ [l[k]'(by omega)] := List.take_succ_eq_append_getElem (show k < l.length by omega)
  generalize l[k]'(by omega) = x at *
  have hlt7 : m < 72057594037927936 := by
   have h1 := WS (l.take k)
   rw [← hm, show (l.take k).length = k by simp; omega] at h1
   have h2 : 256 ^ k ≤ 256 ^ 7 := Nat.pow_le_pow_right (by decide) (by omega)
   have h3 : 256 ^ 7 = 72057594037927936 := rfl
   omega
  have hx := x.toNat_lt
  have hnx : ZP (l.take (k + 1)) = m * 256 + x.toNat := by rw [hts, unbe_snoc, hm]
  rw [e1]
  repeat' (first | (refine iBu ?_; refine Yb (Zy rfl) rfl rfl ?_) | (refine Zg ?_; first | (refine Ze ?_; refine qQ ?_) | refine Zj ?_) | refine Za ?_ | (refine Zh ?_; refine Zq ?_) | (refine Zi ?_; refine Zr ?_) | intro _)
  rw [← e1]
  simp only [show (m:Int)*256 + (x.toNat:Int) = ((m*256+x.toNat : Nat):Int) by omega]
  refine Zp (k + 1, m * 256 + x.toNat) (⟨hlt, hnx.symm⟩) Zm Zm rfl tk inferInstance (by first | omega | (dsimp only; omega))
 ·obtain rfl : k = n := by omega
  rw [List.take_of_length_le (by omega)] at hm
  subst hm
  repeat' (first | (refine iBu ?_; refine Yb (Zy rfl) rfl rfl ?_) | (refine Zg ?_; first | (refine Ze ?_; refine qQ ?_) | refine Zj ?_) | refine Za ?_ | (refine Zh ?_; refine Zq ?_) | (refine Zi ?_; refine Zr ?_) | intro _)
  exact qE (L' := []) ⟨rfl, rfl, rfl⟩
end Go.Proofs.E
