/- The law RecordReads. Part 5 of 21. -/
import Derived.Test.YtjajdpfdhokkhaaGreatV4
namespace Go.Proofs.E
open Go
set_option linter.unusedVariables false
set_option linter.unusedSimpArgs false
set_option linter.unusedSectionVars false
set_option maxRecDepth 4000
set_option maxHeartbeats 1000000
attribute [local irreducible] Yl TL TC TE Spec XW R1 Hp.le EnvLe TS TR YS Zv
def ZH {α : Type} (most : Nat) (right : Nat → α → Bool) (lt : α → α → Bool) (l : List α) : Nat → Bool
 | 0 => decide (l.length ≤ most)
 | k + 1 => ZH most right lt l k && (match l[k]? with | some x => right k x && (decide (k = 0) || (match l[k - 1]? with | some y => lt y x | none => false)) | none => false)
theorem YZ {α : Type} {most : Nat} {right : Nat → α → Bool} {lt : α → α → Bool} {l : List α} {k : Nat} (h : k < l.length) : ZH most right lt l (k + 1) = (ZH most right lt l k && (right k l[k] && (decide (k = 0) || lt (l[k - 1]'(by omega)) l[k]))) := by
 rw [ZH]
 simp [h, show k - 1 < l.length by omega]
theorem risesB_false {α : Type} {most : Nat} {right : Nat → α → Bool} {lt : α → α → Bool} {l : List α} {k : Nat} (h : ZH most right lt l k = false) : ∀ m, ZH most right lt l (k + m) = false
 | 0 => h
 | m + 1 => by rw [← Nat.add_assoc, ZH, risesB_false h m]; rfl
theorem YO {α : Type} {most : Nat} {right : Nat → α → Bool} {lt : α → α → Bool} {l : List α} {k n : Nat} (h : ZH most right lt l k = false) (hk : k ≤ n) : ZH most right lt l n = false := by
 have := risesB_false h (n - k)
 rwa [Nat.add_sub_cancel' hk] at this
theorem Yg (ρ : Hp) (r : Row) : Spec Tryz.prog 303 [.agg ⟨YY r⟩] ρ [] (fun v ρ' L' => v = .agg ⟨keyV r.t r.id⟩ ∧ ρ' = ρ ∧ L' = []) := by
 refine Zf Tryz.func303 rfl rfl rfl fun u R => ?_
 simp only [Zx, List.cons_append, List.nil_append]
 repeat' (first | (refine Zj ?_; first | (refine Zg ?_; refine qQ ?_) | refine Zl ?_) | refine Za ?_ | (refine Zi ?_; refine Zq ?_) | (refine Zh ?_; refine Zp ?_) | intro _)
 exact qE ⟨rfl, rfl, rfl⟩
theorem Xf (ρ : Hp) (i : Int) (r : Row) : Spec Tryz.prog 304 [.int .i64 i, .agg ⟨YY r⟩] ρ [] (fun v ρ' L' => v = .bool (Yy r) ∧ ρ' = ρ ∧ L' = []) := by
 refine Zf Tryz.func304 rfl rfl rfl fun u R => ?_
 simp only [Zx, List.cons_append, List.nil_append]
 cases h : Yy r
 ·repeat' (first | (refine Zc (.func 253) ?_; refine qC rfl rfl (checkRow_spec _ r) ?_; rintro v ρ' L' hle ⟨rfl, rfl, rfl⟩ <;> (try simp only [kM, kN, kO, h, if_false, Bool.false_eq_true])) | (refine Zj ?_; first | (refine Zg ?_; refine qQ ?_) | refine Zl ?_) | refine Za ?_ | (refine Zi ?_; refine Zq ?_) | (refine Zh ?_; refine Zp ?_) | intro _)
  exact qE ⟨rfl, rfl, rfl⟩
 ·repeat' (first | (refine Zc (.func 253) ?_; refine qC rfl rfl (checkRow_spec _ r) ?_; rintro v ρ' L' hle ⟨rfl, rfl, rfl⟩ <;> (try simp only [kM, kN, kO, h, if_true])) | (refine Zj ?_; first | (refine Zg ?_; refine qQ ?_) | refine Zl ?_) | refine Za ?_ | (refine Zi ?_; refine Zq ?_) | (refine Zh ?_; refine Zp ?_) | intro _)
  exact qE ⟨rfl, rfl, rfl⟩
def ltR (y x : Row) : Bool := decide (cmpK y.t y.id x.t x.id < 0)
def rowsOk (l : List Row) : Bool := ZH 4 (fun _ r => Yy r) ltR l l.length
theorem rowV_len (r : Row) : (YY r).length = 4 := rfl
theorem risesRow_spec (ρ : Hp) (a : Option Addr) (n c : Nat) (l : List Row) (h : AIn ρ 4 YY a n l) (hn : n ≤ 1000000) :
  Spec Tryz.prog 302 [.slice a n c, .int .i64 4, .func (.func 303) ⟨[]⟩ ⟨[]⟩, .func (.func 304) ⟨[]⟩ ⟨[]⟩] ρ [] (fun v ρ' L' => v = .bool (rowsOk l) ∧ ρ' = ρ ∧ L' = []) := by
 have hl := h.len
 unfold rowsOk
 rw [hl]
 refine Zf Tryz.func302 rfl rfl rfl fun u R => ?_
 simp only [Zx, List.cons_append, List.nil_append]
 repeat' (first | (refine Zj ?_; first | (refine Zg ?_; refine qQ ?_) | refine Zl ?_) | refine Za ?_ | (refine Zi ?_; refine Zq ?_) | (refine Zh ?_; refine Zp ?_) | intro _)
 have e0 : decide ((n : Int) ≤ 4) = ZH 4 (fun _ r => Yy r) ltR l 0 := by
  rw [ZH]; simp [hl]; omega
 rw [e0]
 refine Zy [(0, _), (2, _), (3, _), (8, _), (16, _), (17, _)] (fun (ζ : (Nat)) => [(18, .int .i64 ζ), (9, .bool (ZH 4 (fun _ r => Yy r) ltR l ζ))]) (fun (ζ : (Nat)) => ρ) (fun (ζ : (Nat)) => []) (fun (ζ : (Nat)) => ζ ≤ n) (fun (ζ : (Nat)) => n - ζ) (0) (Nat.zero_le _) Zk Zk rfl tk ?_
 rintro k hI
 try simp only [List.cons_append, List.nil_append, List.append_assoc, List.append_eq] at hI ⊢
 try dsimp only at hI ⊢
 by_cases hlt : k < n
 ·obtain ⟨b, off, C, T, fr, rfl, hb, hfit, hc⟩ := h.get (show k < l.length by omega)
  have hs := YZ (most := 4) (right := fun _ r => Yy r) (lt := ltR) (show k < l.length by omega)
  have hfin := fun (e : ZH 4 (fun _ r => Yy r) ltR l (k + 1) = false) => YO e (show k + 1 ≤ n by omega)
  cases hok : ZH 4 (fun _ r => Yy r) ltR l k
  ·rw [hok, Bool.false_and] at hs
   rw [hfin hs]
   generalize l[k] = x at *
   repeat' (first | (refine Zj ?_; first | (refine Zg ?_; refine qQ ?_) | refine Zl ?_) | refine Za ?_ | (refine Zi ?_; refine Zq ?_) | (refine Zh ?_; refine Zp ?_) | intro _)
   refine ZI (Zv _ _ _) ZC ?_
   all_goals (refine Ye 0 ?_; refine Ye 1 ?_; (first | refine Zd 2 ?_ | refine Zb 2 ?_ | refine ZT 2 ?_); (first | refine Zd 3 ?_ | refine Zb 3 ?_ | refine ZT 3 ?_); (first | refine Zd 4 ?_ | refine Zb 4 ?_ | refine wLd 4 ?_))
   all_goals (first | refine Zd 5 ?_ | refine Zb 5 ?_ | (refine Zt (i := 5) ?_; ((try refine Zr ?_); (first | (refine Zl ?_; try intro _)) <;> ((try simp only [kM, kN, kO]); refine Za ?_; refine Zs ?_))))
   all_goals (refine rPk 6 ?_; refine Ye 7 ?_; (first | refine Zd 8 ?_ | refine Zb 8 ?_ | refine ZT 8 ?_); (first | refine Zd 9 ?_ | refine Zb 9 ?_ | refine wCm 9 ?_); (first | refine Zd 10 ?_ | refine Zb 10 ?_ | refine ZT 10 ?_); (first | refine Zd 11 ?_ | refine Zb 11 ?_ | refine ZT 11 ?_); (first | refine Zd 12 ?_ | refine Zb 12 ?_ | refine ZT 12 ?_); (first | refine Zd 13 ?_ | refine Zb 13 ?_ | refine ZT 13 ?_); (first | refine Zd 14 ?_ | refine Zb 14 ?_ | refine wSb 14 ?_); (first | refine Zd 15 ?_ | refine Zb 15 ?_ | refine wIa 15 ?_); (first | refine Zd 16 ?_ | refine Zb 16 ?_ | refine wLd 16 ?_); (first | refine Zd 18 ?_ | refine Zb 18 ?_ | refine ZT 18 ?_); (first | refine Zd 19 ?_ | refine Zb 19 ?_ | refine wLd 19 ?_))
   all_goals (first | refine Zd 17 ?_ | refine Zb 17 ?_ | (refine Zt (i := 17) ?_; ((try refine Zr ?_); (first | (refine Zl ?_; try intro _)) <;> ((try simp only [kM, kN, kO]); refine Za ?_; refine Zs ?_))))
   all_goals (first | refine Zd 20 ?_ | refine Zb 20 ?_ | (refine Zt (i := 20) ?_; ((try refine Zr ?_); (first | (refine Zl ?_; try intro _)) <;> ((try simp only [kM, kN, kO]); refine Za ?_; refine Zs ?_))))
   all_goals (first | refine Zd 21 ?_ | refine Zb 21 ?_ | (refine Zt (i := 21) ?_; ((try refine Zr ?_); (first | (refine Zl ?_; try intro _)) <;> ((try simp only [kM, kN, kO]); refine Za ?_; refine Zs ?_))))
   all_goals (refine Yi ?_; (first | refine Zd 22 ?_ | refine Zb 22 ?_ | refine wCm 22 ?_); (first | refine Zd 23 ?_ | refine Zb 23 ?_ | refine wPk 23 ?_); refine rPk 24 ?_; refine rAs 25 ?_; refine ZP ?_)
   repeat' (first | (refine Zj ?_; first | (refine Zg ?_; refine qQ ?_) | refine Zl ?_) | refine Za ?_ | (refine Zi ?_; refine Zq ?_) | (refine Zh ?_; refine Zp ?_) | intro _)
   exact qE ⟨rfl, rfl, rfl⟩
  ·rw [hok, Bool.true_and] at hs
   cases hx : Yy l[k]
   ·rw [hx, Bool.false_and] at hs
    rw [hfin hs]
    generalize l[k] = x at *
    repeat' (first | (refine Zj ?_; first | (refine Zg ?_; refine qQ ?_) | refine Zl ?_) | refine Za ?_ | (refine Zi ?_; refine Zq ?_) | (refine Zh ?_; refine Zp ?_) | intro _)
    refine ZI (Zv _ _ _) ZC ?_
    all_goals (refine Ye 0 ?_; refine Ye 1 ?_; (first | refine Zd 2 ?_ | refine Zb 2 ?_ | refine ZT 2 ?_); (first | refine Zd 3 ?_ | refine Zb 3 ?_ | refine ZT 3 ?_); (first | refine Zd 4 ?_ | refine Zb 4 ?_ | refine wLd 4 ?_))
    all_goals (first | refine Zd 5 ?_ | refine Zb 5 ?_ | (refine Zt (i := 5) ?_; ((try refine Zr ?_); (first | (refine Zc (.tmp 25) ?_; refine qC rfl rfl (Xf _ _ _) ?_; rintro v ρ' L' hle ⟨rfl, rfl, rfl⟩ <;> (try simp only [kM, kN, kO, hx])) | (refine Zc (.tmp 34) ?_; refine qC rfl rfl (Yg _ _) ?_; rintro v ρ' L' hle ⟨rfl, rfl, rfl⟩ <;> (try simp only [kM, kN, kO])) | (refine Zc (.tmp 41) ?_; refine qC rfl rfl (Yg _ _) ?_; rintro v ρ' L' hle ⟨rfl, rfl, rfl⟩ <;> (try simp only [kM, kN, kO])) | (refine Zl ?_; try intro _)) <;> ((try simp only [kM, kN, kO]); refine Za ?_; refine Zs ?_))))
    all_goals (refine rPk 6 ?_; refine Ye 7 ?_; (first | refine Zd 8 ?_ | refine Zb 8 ?_ | refine ZT 8 ?_); (first | refine Zd 9 ?_ | refine Zb 9 ?_ | refine wCm 9 ?_); (first | refine Zd 10 ?_ | refine Zb 10 ?_ | refine ZT 10 ?_); (first | refine Zd 11 ?_ | refine Zb 11 ?_ | refine ZT 11 ?_); (first | refine Zd 12 ?_ | refine Zb 12 ?_ | refine ZT 12 ?_); (first | refine Zd 13 ?_ | refine Zb 13 ?_ | refine ZT 13 ?_); (first | refine Zd 14 ?_ | refine Zb 14 ?_ | refine wSb 14 ?_); (first | refine Zd 15 ?_ | refine Zb 15 ?_ | refine wIa 15 ?_); (first | refine Zd 16 ?_ | refine Zb 16 ?_ | refine wLd 16 ?_); (first | refine Zd 18 ?_ | refine Zb 18 ?_ | refine ZT 18 ?_); (first | refine Zd 19 ?_ | refine Zb 19 ?_ | refine wLd 19 ?_))
    all_goals (first | refine Zd 17 ?_ | refine Zb 17 ?_ | (refine Zt (i := 17) ?_; ((try refine Zr ?_); (first | (refine Zc (.tmp 25) ?_; refine qC rfl rfl (Xf _ _ _) ?_; rintro v ρ' L' hle ⟨rfl, rfl, rfl⟩ <;> (try simp only [kM, kN, kO, hx])) | (refine Zc (.tmp 34) ?_; refine qC rfl rfl (Yg _ _) ?_; rintro v ρ' L' hle ⟨rfl, rfl, rfl⟩ <;> (try simp only [kM, kN, kO])) | (refine Zc (.tmp 41) ?_; refine qC rfl rfl (Yg _ _) ?_; rintro v ρ' L' hle ⟨rfl, rfl, rfl⟩ <;> (try simp only [kM, kN, kO])) | (refine Zl ?_; try intro _)) <;> ((try simp only [kM, kN, kO]); refine Za ?_; refine Zs ?_))))
    all_goals (first | refine Zd 20 ?_ | refine Zb 20 ?_ | (refine Zt (i := 20) ?_; ((try refine Zr ?_); (first | (refine Zc (.tmp 25) ?_; refine qC rfl rfl (Xf _ _ _) ?_; rintro v ρ' L' hle ⟨rfl, rfl, rfl⟩ <;> (try simp only [kM, kN, kO, hx])) | (refine Zc (.tmp 34) ?_; refine qC rfl rfl (Yg _ _) ?_; rintro v ρ' L' hle ⟨rfl, rfl, rfl⟩ <;> (try simp only [kM, kN, kO])) | (refine Zc (.tmp 41) ?_; refine qC rfl rfl (Yg _ _) ?_; rintro v ρ' L' hle ⟨rfl, rfl, rfl⟩ <;> (try simp only [kM, kN, kO])) | (refine Zl ?_; try intro _)) <;> ((try simp only [kM, kN, kO]); refine Za ?_; refine Zs ?_))))
    all_goals (first | refine Zd 21 ?_ | refine Zb 21 ?_ | (refine Zt (i := 21) ?_; ((try refine Zr ?_); (first | (refine Zc (.func 317) ?_; refine qC rfl rfl (Xv _ _ _ _ _) ?_; rintro v ρ' L' hle ⟨rfl, rfl, rfl⟩ <;> (try simp only [kM, kN, kO])) | (refine Zl ?_; try intro _)) <;> ((try simp only [kM, kN, kO]); refine Za ?_; refine Zs ?_))))
    all_goals (refine Yi ?_; (first | refine Zd 22 ?_ | refine Zb 22 ?_ | refine wCm 22 ?_); (first | refine Zd 23 ?_ | refine Zb 23 ?_ | refine wPk 23 ?_); refine rPk 24 ?_; refine rAs 25 ?_; refine ZP ?_)
    repeat' (first | (refine Zj ?_; first | (refine Zg ?_; refine qQ ?_) | refine Zl ?_) | refine Za ?_ | (refine Zi ?_; refine Zq ?_) | (refine Zh ?_; refine Zp ?_) | intro _)
    exact qE ⟨rfl, rfl, rfl⟩
   ·rw [hx, Bool.true_and] at hs
    by_cases hk0 : k = 0
    ·have hs' : ZH 4 (fun _ r => Yy r) ltR l (k + 1) = true := by rw [hs]; simp [hk0]
     generalize l[k] = x at *
     repeat' (first | (refine Zj ?_; first | (refine Zg ?_; refine qQ ?_) | refine Zl ?_) | refine Za ?_ | (refine Zi ?_; refine Zq ?_) | (refine Zh ?_; refine Zp ?_) | intro _)
     refine ZI (Zv _ _ _) ZC ?_
     all_goals (refine Ye 0 ?_; refine Ye 1 ?_; (first | refine Zd 2 ?_ | refine Zb 2 ?_ | refine ZT 2 ?_); (first | refine Zd 3 ?_ | refine Zb 3 ?_ | refine ZT 3 ?_); (first | refine Zd 4 ?_ | refine Zb 4 ?_ | refine wLd 4 ?_))
     all_goals (first | refine Zd 5 ?_ | refine Zb 5 ?_ | (refine Zt (i := 5) ?_; ((try refine Zr ?_); (first | (refine Zc (.tmp 25) ?_; refine qC rfl rfl (Xf _ _ _) ?_; rintro v ρ' L' hle ⟨rfl, rfl, rfl⟩ <;> (try simp only [kM, kN, kO, hx])) | (refine Zc (.tmp 34) ?_; refine qC rfl rfl (Yg _ _) ?_; rintro v ρ' L' hle ⟨rfl, rfl, rfl⟩ <;> (try simp only [kM, kN, kO])) | (refine Zc (.tmp 41) ?_; refine qC rfl rfl (Yg _ _) ?_; rintro v ρ' L' hle ⟨rfl, rfl, rfl⟩ <;> (try simp only [kM, kN, kO])) | (refine Zl ?_; try intro _)) <;> ((try simp only [kM, kN, kO]); refine Za ?_; refine Zs ?_))))
     all_goals (refine rPk 6 ?_; refine Ye 7 ?_; (first | refine Zd 8 ?_ | refine Zb 8 ?_ | refine ZT 8 ?_); (first | refine Zd 9 ?_ | refine Zb 9 ?_ | refine wCm 9 ?_); (first | refine Zd 10 ?_ | refine Zb 10 ?_ | refine ZT 10 ?_); (first | refine Zd 11 ?_ | refine Zb 11 ?_ | refine ZT 11 ?_); (first | refine Zd 12 ?_ | refine Zb 12 ?_ | refine ZT 12 ?_); (first | refine Zd 13 ?_ | refine Zb 13 ?_ | refine ZT 13 ?_); (first | refine Zd 14 ?_ | refine Zb 14 ?_ | refine wSb 14 ?_); (first | refine Zd 15 ?_ | refine Zb 15 ?_ | refine wIa 15 ?_); (first | refine Zd 16 ?_ | refine Zb 16 ?_ | refine wLd 16 ?_); (first | refine Zd 18 ?_ | refine Zb 18 ?_ | refine ZT 18 ?_); (first | refine Zd 19 ?_ | refine Zb 19 ?_ | refine wLd 19 ?_))
     all_goals (first | refine Zd 17 ?_ | refine Zb 17 ?_ | (refine Zt (i := 17) ?_; ((try refine Zr ?_); (first | (refine Zc (.tmp 25) ?_; refine qC rfl rfl (Xf _ _ _) ?_; rintro v ρ' L' hle ⟨rfl, rfl, rfl⟩ <;> (try simp only [kM, kN, kO, hx])) | (refine Zc (.tmp 34) ?_; refine qC rfl rfl (Yg _ _) ?_; rintro v ρ' L' hle ⟨rfl, rfl, rfl⟩ <;> (try simp only [kM, kN, kO])) | (refine Zc (.tmp 41) ?_; refine qC rfl rfl (Yg _ _) ?_; rintro v ρ' L' hle ⟨rfl, rfl, rfl⟩ <;> (try simp only [kM, kN, kO])) | (refine Zl ?_; try intro _)) <;> ((try simp only [kM, kN, kO]); refine Za ?_; refine Zs ?_))))
     all_goals (first | refine Zd 20 ?_ | refine Zb 20 ?_ | (refine Zt (i := 20) ?_; ((try refine Zr ?_); (first | (refine Zc (.tmp 25) ?_; refine qC rfl rfl (Xf _ _ _) ?_; rintro v ρ' L' hle ⟨rfl, rfl, rfl⟩ <;> (try simp only [kM, kN, kO, hx])) | (refine Zc (.tmp 34) ?_; refine qC rfl rfl (Yg _ _) ?_; rintro v ρ' L' hle ⟨rfl, rfl, rfl⟩ <;> (try simp only [kM, kN, kO])) | (refine Zc (.tmp 41) ?_; refine qC rfl rfl (Yg _ _) ?_; rintro v ρ' L' hle ⟨rfl, rfl, rfl⟩ <;> (try simp only [kM, kN, kO])) | (refine Zl ?_; try intro _)) <;> ((try simp only [kM, kN, kO]); refine Za ?_; refine Zs ?_))))
     all_goals (first | refine Zd 21 ?_ | refine Zb 21 ?_ | (refine Zt (i := 21) ?_; ((try refine Zr ?_); (first | (refine Zc (.func 317) ?_; refine qC rfl rfl (Xv _ _ _ _ _) ?_; rintro v ρ' L' hle ⟨rfl, rfl, rfl⟩ <;> (try simp only [kM, kN, kO])) | (refine Zl ?_; try intro _)) <;> ((try simp only [kM, kN, kO]); refine Za ?_; refine Zs ?_))))
     all_goals (refine Yi ?_; (first | refine Zd 22 ?_ | refine Zb 22 ?_ | refine wCm 22 ?_); (first | refine Zd 23 ?_ | refine Zb 23 ?_ | refine wPk 23 ?_); refine rPk 24 ?_; refine rAs 25 ?_; refine ZP ?_)
     repeat' (first | (refine Zj ?_; first | (refine Zg ?_; refine qQ ?_) | refine Zl ?_) | refine Za ?_ | (refine Zi ?_; refine Zq ?_) | (refine Zh ?_; refine Zp ?_) | intro _)
     rw [← hs']
     refine Zo (k + 1) (hlt) Zk Zk rfl tk inferInstance (by first | omega | (dsimp only; omega))
    ·have hd : decide (k = 0) = false := decide_eq_false hk0
     obtain ⟨b2, off2, C2, T2, fr2, f1, hb2, hfit2, hc2⟩ := h.get (show k - 1 < l.length by omega)
     cases f1
     rw [hb] at hb2
     cases hb2
     have ek : ((k : Int) - 1).toNat = k - 1 := by omega
     rw [← ek] at hfit2
     have hc3 : List.take 4 (List.drop (off + ((k : Int) - 1).toNat * 4) C) = YY (l[k - 1]'(by omega)) := by rw [ek]; exact hc2
     clear hc2
     rw [hd, Bool.false_or] at hs
     generalize l[k] = x at *
     generalize l[k - 1]'(by omega) = y at *
     unfold ltR at hs
     by_cases hcm : cmpK y.t y.id x.t x.id < 0
     ·rw [decide_eq_true hcm] at hs
      repeat' (first | (refine Zj ?_; first | (refine Zg ?_; refine qQ ?_) | refine Zl ?_) | refine Za ?_ | (refine Zi ?_; refine Zq ?_) | (refine Zh ?_; refine Zp ?_) | intro _)
      refine ZI (Zv _ _ _) ZC ?_
      all_goals (refine Ye 0 ?_; refine Ye 1 ?_; (first | refine Zd 2 ?_ | refine Zb 2 ?_ | refine ZT 2 ?_); (first | refine Zd 3 ?_ | refine Zb 3 ?_ | refine ZT 3 ?_); (first | refine Zd 4 ?_ | refine Zb 4 ?_ | refine wLd 4 ?_))
      all_goals (first | refine Zd 5 ?_ | refine Zb 5 ?_ | (refine Zt (i := 5) ?_; ((try refine Zr ?_); (first | (refine Zc (.tmp 25) ?_; refine qC rfl rfl (Xf _ _ _) ?_; rintro v ρ' L' hle ⟨rfl, rfl, rfl⟩ <;> (try simp only [kM, kN, kO, hx])) | (refine Zc (.tmp 34) ?_; refine qC rfl rfl (Yg _ _) ?_; rintro v ρ' L' hle ⟨rfl, rfl, rfl⟩ <;> (try simp only [kM, kN, kO])) | (refine Zc (.tmp 41) ?_; refine qC rfl rfl (Yg _ _) ?_; rintro v ρ' L' hle ⟨rfl, rfl, rfl⟩ <;> (try simp only [kM, kN, kO])) | (refine Zl ?_; try intro _)) <;> ((try simp only [kM, kN, kO]); refine Za ?_; refine Zs ?_))))
      all_goals (refine rPk 6 ?_; refine Ye 7 ?_; (first | refine Zd 8 ?_ | refine Zb 8 ?_ | refine ZT 8 ?_); (first | refine Zd 9 ?_ | refine Zb 9 ?_ | refine wCm 9 ?_); (first | refine Zd 10 ?_ | refine Zb 10 ?_ | refine ZT 10 ?_); (first | refine Zd 11 ?_ | refine Zb 11 ?_ | refine ZT 11 ?_); (first | refine Zd 12 ?_ | refine Zb 12 ?_ | refine ZT 12 ?_); (first | refine Zd 13 ?_ | refine Zb 13 ?_ | refine ZT 13 ?_); (first | refine Zd 14 ?_ | refine Zb 14 ?_ | refine wSb 14 ?_); (first | refine Zd 15 ?_ | refine Zb 15 ?_ | refine wIa 15 ?_); (first | refine Zd 16 ?_ | refine Zb 16 ?_ | refine wLd 16 ?_); (first | refine Zd 18 ?_ | refine Zb 18 ?_ | refine ZT 18 ?_); (first | refine Zd 19 ?_ | refine Zb 19 ?_ | refine wLd 19 ?_))
      all_goals (first | refine Zd 17 ?_ | refine Zb 17 ?_ | (refine Zt (i := 17) ?_; ((try refine Zr ?_); (first | (refine Zc (.tmp 25) ?_; refine qC rfl rfl (Xf _ _ _) ?_; rintro v ρ' L' hle ⟨rfl, rfl, rfl⟩ <;> (try simp only [kM, kN, kO, hx])) | (refine Zc (.tmp 34) ?_; refine qC rfl rfl (Yg _ _) ?_; rintro v ρ' L' hle ⟨rfl, rfl, rfl⟩ <;> (try simp only [kM, kN, kO])) | (refine Zc (.tmp 41) ?_; refine qC rfl rfl (Yg _ _) ?_; rintro v ρ' L' hle ⟨rfl, rfl, rfl⟩ <;> (try simp only [kM, kN, kO])) | (refine Zl ?_; try intro _)) <;> ((try simp only [kM, kN, kO]); refine Za ?_; refine Zs ?_))))
      all_goals (first | refine Zd 20 ?_ | refine Zb 20 ?_ | (refine Zt (i := 20) ?_; ((try refine Zr ?_); (first | (refine Zc (.tmp 25) ?_; refine qC rfl rfl (Xf _ _ _) ?_; rintro v ρ' L' hle ⟨rfl, rfl, rfl⟩ <;> (try simp only [kM, kN, kO, hx])) | (refine Zc (.tmp 34) ?_; refine qC rfl rfl (Yg _ _) ?_; rintro v ρ' L' hle ⟨rfl, rfl, rfl⟩ <;> (try simp only [kM, kN, kO])) | (refine Zc (.tmp 41) ?_; refine qC rfl rfl (Yg _ _) ?_; rintro v ρ' L' hle ⟨rfl, rfl, rfl⟩ <;> (try simp only [kM, kN, kO])) | (refine Zl ?_; try intro _)) <;> ((try simp only [kM, kN, kO]); refine Za ?_; refine Zs ?_))))
      all_goals (first | refine Zd 21 ?_ | refine Zb 21 ?_ | (refine Zt (i := 21) ?_; ((try refine Zr ?_); (first | (refine Zc (.func 317) ?_; refine qC rfl rfl (Xv _ _ _ _ _) ?_; rintro v ρ' L' hle ⟨rfl, rfl, rfl⟩ <;> (try simp only [kM, kN, kO])) | (refine Zl ?_; try intro _)) <;> ((try simp only [kM, kN, kO]); refine Za ?_; refine Zs ?_))))
      all_goals (refine Yi ?_; (first | refine Zd 22 ?_ | refine Zb 22 ?_ | refine wCm 22 ?_); (first | refine Zd 23 ?_ | refine Zb 23 ?_ | refine wPk 23 ?_); refine rPk 24 ?_; refine rAs 25 ?_; refine ZP ?_)
      all_goals (repeat' (first | (refine Zj ?_; first | (refine Zg ?_; refine qQ ?_) | refine Zl ?_) | refine Za ?_ | (refine Zi ?_; refine Zq ?_) | (refine Zh ?_; refine Zp ?_) | intro _))
      all_goals rw [← hs]
      all_goals refine Zo (k + 1) (hlt) Zk Zk rfl tk inferInstance (by first | omega | (dsimp only; omega))
     ·rw [decide_eq_false hcm] at hs
      rw [hfin hs]
      repeat' (first | (refine Zj ?_; first | (refine Zg ?_; refine qQ ?_) | refine Zl ?_) | refine Za ?_ | (refine Zi ?_; refine Zq ?_) | (refine Zh ?_; refine Zp ?_) | intro _)
      refine ZI (Zv _ _ _) ZC ?_
      all_goals (refine Ye 0 ?_; refine Ye 1 ?_; (first | refine Zd 2 ?_ | refine Zb 2 ?_ | refine ZT 2 ?_); (first | refine Zd 3 ?_ | refine Zb 3 ?_ | refine ZT 3 ?_); (first | refine Zd 4 ?_ | refine Zb 4 ?_ | refine wLd 4 ?_))
      all_goals (first | refine Zd 5 ?_ | refine Zb 5 ?_ | (refine Zt (i := 5) ?_; ((try refine Zr ?_); (first | (refine Zc (.tmp 25) ?_; refine qC rfl rfl (Xf _ _ _) ?_; rintro v ρ' L' hle ⟨rfl, rfl, rfl⟩ <;> (try simp only [kM, kN, kO, hx])) | (refine Zc (.tmp 34) ?_; refine qC rfl rfl (Yg _ _) ?_; rintro v ρ' L' hle ⟨rfl, rfl, rfl⟩ <;> (try simp only [kM, kN, kO])) | (refine Zc (.tmp 41) ?_; refine qC rfl rfl (Yg _ _) ?_; rintro v ρ' L' hle ⟨rfl, rfl, rfl⟩ <;> (try simp only [kM, kN, kO])) | (refine Zl ?_; try intro _)) <;> ((try simp only [kM, kN, kO]); refine Za ?_; refine Zs ?_))))
      all_goals (refine rPk 6 ?_; refine Ye 7 ?_; (first | refine Zd 8 ?_ | refine Zb 8 ?_ | refine ZT 8 ?_); (first | refine Zd 9 ?_ | refine Zb 9 ?_ | refine wCm 9 ?_); (first | refine Zd 10 ?_ | refine Zb 10 ?_ | refine ZT 10 ?_); (first | refine Zd 11 ?_ | refine Zb 11 ?_ | refine ZT 11 ?_); (first | refine Zd 12 ?_ | refine Zb 12 ?_ | refine ZT 12 ?_); (first | refine Zd 13 ?_ | refine Zb 13 ?_ | refine ZT 13 ?_); (first | refine Zd 14 ?_ | refine Zb 14 ?_ | refine wSb 14 ?_); (first | refine Zd 15 ?_ | refine Zb 15 ?_ | refine wIa 15 ?_); (first | refine Zd 16 ?_ | refine Zb 16 ?_ | refine wLd 16 ?_); (first | refine Zd 18 ?_ | refine Zb 18 ?_ | refine ZT 18 ?_); (first | refine Zd 19 ?_ | refine Zb 19 ?_ | refine wLd 19 ?_))
      all_goals (first | refine Zd 17 ?_ | refine Zb 17 ?_ | (refine Zt (i := 17) ?_; ((try refine Zr ?_); (first | (refine Zc (.tmp 25) ?_; refine qC rfl rfl (Xf _ _ _) ?_; rintro v ρ' L' hle ⟨rfl, rfl, rfl⟩ <;> (try simp only [kM, kN, kO, hx])) | (refine Zc (.tmp 34) ?_; refine qC rfl rfl (Yg _ _) ?_; rintro v ρ' L' hle ⟨rfl, rfl, rfl⟩ <;> (try simp only [kM, kN, kO])) | (refine Zc (.tmp 41) ?_; refine qC rfl rfl (Yg _ _) ?_; rintro v ρ' L' hle ⟨rfl, rfl, rfl⟩ <;> (try simp only [kM, kN, kO])) | (refine Zl ?_; try intro _)) <;> ((try simp only [kM, kN, kO]); refine Za ?_; refine Zs ?_))))
      all_goals (first | refine Zd 20 ?_ | refine Zb 20 ?_ | (refine Zt (i := 20) ?_; ((try refine Zr ?_); (first | (refine Zc (.tmp 25) ?_; refine qC rfl rfl (Xf _ _ _) ?_; rintro v ρ' L' hle ⟨rfl, rfl, rfl⟩ <;> (try simp only [kM, kN, kO, hx])) | (refine Zc (.tmp 34) ?_; refine qC rfl rfl (Yg _ _) ?_; rintro v ρ' L' hle ⟨rfl, rfl, rfl⟩ <;> (try simp only [kM, kN, kO])) | (refine Zc (.tmp 41) ?_; refine qC rfl rfl (Yg _ _) ?_; rintro v ρ' L' hle ⟨rfl, rfl, rfl⟩ <;> (try simp only [kM, kN, kO])) | (refine Zl ?_; try intro _)) <;> ((try simp only [kM, kN, kO]); refine Za ?_; refine Zs ?_))))
      all_goals (first | refine Zd 21 ?_ | refine Zb 21 ?_ | (refine Zt (i := 21) ?_; ((try refine Zr ?_); (first | (refine Zc (.func 317) ?_; refine qC rfl rfl (Xv _ _ _ _ _) ?_; rintro v ρ' L' hle ⟨rfl, rfl, rfl⟩ <;> (try simp only [kM, kN, kO])) | (refine Zl ?_; try intro _)) <;> ((try simp only [kM, kN, kO]); refine Za ?_; refine Zs ?_))))
      all_goals (refine Yi ?_; (first | refine Zd 22 ?_ | refine Zb 22 ?_ | refine wCm 22 ?_); (first | refine Zd 23 ?_ | refine Zb 23 ?_ | refine wPk 23 ?_); refine rPk 24 ?_; refine rAs 25 ?_; refine ZP ?_)
      all_goals (repeat' (first | (refine Zj ?_; first | (refine Zg ?_; refine qQ ?_) | refine Zl ?_) | refine Za ?_ | (refine Zi ?_; refine Zq ?_) | (refine Zh ?_; refine Zp ?_) | intro _))
      all_goals exact qE ⟨rfl, rfl, rfl⟩
 ·have hk2 : k = n := by omega
  subst hk2
  repeat' (first | (refine Zj ?_; first | (refine Zg ?_; refine qQ ?_) | refine Zl ?_) | refine Za ?_ | (refine Zi ?_; refine Zq ?_) | (refine Zh ?_; refine Zp ?_) | intro _)
  exact qE ⟨rfl, rfl, rfl⟩
structure MetOk (es : List MapEntry) (ps : List Int) : Prop where
 keys : Xe .i64 es
 get : ∀ p, Xo es p = if p ∈ ps then some (.bool true) else none
theorem MetOk.nil : MetOk [] [] := ⟨by intro e he; simp at he, fun p => by simp [Xo]⟩
def kidOk (i : Nat) (ps : List Int) (k : Kid) : Bool := decide (k.page ∉ ps ∧ 0 < k.page ∧ k.page < 64 ∧ (0 ≤ k.t ∧ k.t < 3) ∧ (0 < i ∨ (k.t = 0 ∧ k.id = 0)))
theorem kidV_len (r : Kid) : (Xs r).length = 3 := rfl
theorem ZW (ρ : Hp) (r : Kid) : Spec Tryz.prog 306 [.agg ⟨Xs r⟩] ρ [] (fun v ρ' L' => v = .agg ⟨keyV r.t r.id⟩ ∧ ρ' = ρ ∧ L' = []) := by
 refine Zf Tryz.func306 rfl rfl rfl fun u R => ?_
 simp only [Zx, List.cons_append, List.nil_append]
 repeat' (first | (refine Zj ?_; first | (refine Zg ?_; refine qQ ?_) | refine Zl ?_) | refine Za ?_ | (refine Zi ?_; refine Zq ?_) | (refine Zh ?_; refine Zp ?_) | intro _)
 exact qE ⟨rfl, rfl, rfl⟩
abbrev metL (bx mb : Nat) (es : List MapEntry) (ck : Nat) : SH := [[(bx, .cells ⟨[.map (some mb)]⟩ 335 (0, 0))], [(mb, .map ⟨es⟩ ck)]]
theorem YV (ρ : Hp) (bx mb : Nat) (es : List MapEntry) (ck : Nat) (ps : List Int) (hm : MetOk es ps) (i : Nat) (k : Kid) : Spec Tryz.prog 307 [.int .i64 i, .agg ⟨Xs k⟩, .pointer (some ⟨bx, 0, none⟩)] ρ (metL bx mb es ck)
  (fun v ρ' L' => v = .bool (kidOk i ps k) ∧ ρ' = ρ ∧ ∃ es' ck', MetOk es' (k.page :: ps) ∧ L' = metL bx mb es' ck') := by
 obtain ⟨t, id, page⟩ := k
 have hes := hm.keys
 have hg := hm.get page
 dsimp only at hg ⊢
 generalize hq : kidOk i ps ⟨t, id, page⟩ = q
 have hfin : ∀ es', Xe .i64 es' → (∀ j, Xo es' j = if j = page then some (.bool true) else Xo es j) → MetOk es' (page :: ps) := fun es' h1 h2 => ⟨h1, fun p => by
  rw [h2 p, hm.get p]
  by_cases e : p = page <;> simp [e]⟩
 refine Zf Tryz.func307 rfl rfl rfl fun u R => ?_
 simp only [Zx, List.cons_append, List.nil_append]
 by_cases hp : page ∈ ps
 ·rw [if_pos hp] at hg
  have hq' : q = false := by rw [← hq]; exact decide_eq_false (fun h => h.1 hp)
  subst hq'
  repeat' (first | (refine XC rfl rfl rfl hes (fun es' ck' h1 h2 => ?_)) | (refine Zj ?_; first | (refine Zg ?_; refine qQ ?_) | refine Zl ?_) | refine Za ?_ | (refine Zi ?_; refine Zq ?_) | (refine Zh ?_; refine Zp ?_) | intro _)
  exact qE ⟨rfl, rfl, es', ck', hfin es' h1 h2, rfl⟩
 ·rw [if_neg hp] at hg
  by_cases hp0 : 0 < page
  ·by_cases hp6 : page < 64
   ·by_cases ht : 0 ≤ t ∧ t < 3
    ·have hd : decide (0 ≤ t ∧ t < 3) = true := decide_eq_true ht
     by_cases hi : 0 < i
     ·have hq' : q = true := by rw [← hq]; exact decide_eq_true ⟨hp, hp0, hp6, ht, .inl hi⟩
      subst hq'
      repeat' (first | (refine XC rfl rfl rfl hes (fun es' ck' h1 h2 => ?_)) | (refine Zc (.func 280) ?_; refine qC rfl rfl (XS _ _) ?_; rintro v ρ' L' hle ⟨rfl, rfl, rfl⟩ <;> (try simp only [kM, kN, kO, hd])) | (refine Zj ?_; first | (refine Zg ?_; refine qQ ?_) | refine Zl ?_) | refine Za ?_ | (refine Zi ?_; refine Zq ?_) | (refine Zh ?_; refine Zp ?_) | intro _)
      exact qE ⟨rfl, rfl, es', ck', hfin es' h1 h2, rfl⟩
     ·by_cases hz : t = 0 ∧ id = 0
      ·have hq' : q = true := by rw [← hq]; exact decide_eq_true ⟨hp, hp0, hp6, ht, .inr hz⟩
       subst hq'
       obtain ⟨rfl, rfl⟩ := hz
       repeat' (first | (refine XC rfl rfl rfl hes (fun es' ck' h1 h2 => ?_)) | (refine Zc (.func 280) ?_; refine qC rfl rfl (XS _ _) ?_; rintro v ρ' L' hle ⟨rfl, rfl, rfl⟩ <;> (try simp only [kM, kN, kO, hd])) | (refine Zj ?_; first | (refine Zg ?_; refine qQ ?_) | refine Zl ?_) | refine Za ?_ | (refine Zi ?_; refine Zq ?_) | (refine Zh ?_; refine Zp ?_) | intro _)
       exact qE ⟨rfl, rfl, es', ck', hfin es' h1 h2, rfl⟩
      ·have hq' : q = false := by rw [← hq]; exact decide_eq_false (fun h => h.2.2.2.2.elim hi hz)
       subst hq'
       have hk : ((t == 0) && (((id : Int) == 0) && true)) = false := by
        simp; intro h; exact fun h' => hz ⟨h, by omega⟩
       repeat' (first | (refine XC rfl rfl rfl hes (fun es' ck' h1 h2 => ?_)) | (refine Zc (.func 280) ?_; refine qC rfl rfl (XS _ _) ?_; rintro v ρ' L' hle ⟨rfl, rfl, rfl⟩ <;> (try simp only [kM, kN, kO, hd])) | (refine Zj ?_; first | (refine Zg ?_; refine qQ ?_) | refine Zl ?_) | refine Za ?_ | (refine Zi ?_; refine Zq ?_) | (refine Zh ?_; refine Zp ?_) | intro _)
       exact qE ⟨by first | rfl | exact congrArg Value.bool hk, rfl, es', ck', hfin es' h1 h2, rfl⟩
    ·have hd : decide (0 ≤ t ∧ t < 3) = false := decide_eq_false ht
     have hq' : q = false := by rw [← hq]; exact decide_eq_false (fun h => ht h.2.2.2.1)
     subst hq'
     repeat' (first | (refine XC rfl rfl rfl hes (fun es' ck' h1 h2 => ?_)) | (refine Zc (.func 280) ?_; refine qC rfl rfl (XS _ _) ?_; rintro v ρ' L' hle ⟨rfl, rfl, rfl⟩ <;> (try simp only [kM, kN, kO, hd])) | (refine Zj ?_; first | (refine Zg ?_; refine qQ ?_) | refine Zl ?_) | refine Za ?_ | (refine Zi ?_; refine Zq ?_) | (refine Zh ?_; refine Zp ?_) | intro _)
     exact qE ⟨rfl, rfl, es', ck', hfin es' h1 h2, rfl⟩
   ·have hq' : q = false := by rw [← hq]; exact decide_eq_false (fun h => hp6 h.2.2.1)
    subst hq'
    repeat' (first | (refine XC rfl rfl rfl hes (fun es' ck' h1 h2 => ?_)) | (refine Zj ?_; first | (refine Zg ?_; refine qQ ?_) | refine Zl ?_) | refine Za ?_ | (refine Zi ?_; refine Zq ?_) | (refine Zh ?_; refine Zp ?_) | intro _)
    exact qE ⟨rfl, rfl, es', ck', hfin es' h1 h2, rfl⟩
  ·have hq' : q = false := by rw [← hq]; exact decide_eq_false (fun h => hp0 h.2.1)
   subst hq'
   repeat' (first | (refine XC rfl rfl rfl hes (fun es' ck' h1 h2 => ?_)) | (refine Zj ?_; first | (refine Zg ?_; refine qQ ?_) | refine Zl ?_) | refine Za ?_ | (refine Zi ?_; refine Zq ?_) | (refine Zh ?_; refine Zp ?_) | intro _)
   exact qE ⟨rfl, rfl, es', ck', hfin es' h1 h2, rfl⟩
def psTo (l : List Kid) (k : Nat) : List Int := ((l.take k).map Kid.page).reverse
theorem psTo_succ {l : List Kid} {k : Nat} (h : k < l.length) : psTo l (k + 1) = l[k].page :: psTo l k := by
 unfold psTo; rw [List.take_succ_eq_append_getElem h, List.map_append, List.reverse_append]; rfl
def ltK (y x : Kid) : Bool := decide (cmpK y.t y.id x.t x.id < 0)
def kidsOk (l : List Kid) : Bool := ZH 4 (fun i k => kidOk i (psTo l i) k) ltK l l.length
theorem risesKid_spec (ρ : Hp) (a : Option Addr) (n c : Nat) (l : List Kid) (h : AIn ρ 3 Xs a n l) (hn : n ≤ 1000000) (bx mb ck0 : Nat) :
  Spec Tryz.prog 305 [.slice a n c, .int .i64 4, .func (.func 306) ⟨[]⟩ ⟨[]⟩, .func (.func 307) ⟨[]⟩ ⟨[.pointer (some ⟨bx, 0, none⟩)]⟩] ρ (metL bx mb [] ck0) (fun v ρ' L' => v = .bool (kidsOk l) ∧ ρ' = ρ ∧ L' = []) := by
 have hl := h.len
 unfold kidsOk
 rw [hl]
 refine Zf Tryz.func305 rfl rfl rfl fun u R => ?_
 simp only [Zx, List.cons_append, List.nil_append]
 generalize hr : (fun (i : Nat) (k : Kid) => kidOk i (psTo l i) k) = rt
 repeat' (first | (refine Zj ?_; first | (refine Zg ?_; refine qQ ?_) | refine Zl ?_) | refine Za ?_ | (refine Zi ?_; refine Zq ?_) | (refine Zh ?_; refine Zp ?_) | intro _)
 have e0 : decide ((n : Int) ≤ 4) = ZH 4 rt ltK l 0 := by
  rw [ZH]; simp [hl]; omega
 rw [e0]
 refine Zy [(0, _), (2, _), (3, _), (8, _), (16, _), (17, _)] (fun (ζ : (Nat) × (List MapEntry) × (Nat)) => [(18, .int .i64 ζ.1), (9, .bool (ZH 4 rt ltK l ζ.1))]) (fun (ζ : (Nat) × (List MapEntry) × (Nat)) => ρ) (fun (ζ : (Nat) × (List MapEntry) × (Nat)) => metL bx mb ζ.2.1 ζ.2.2) (fun (ζ : (Nat) × (List MapEntry) × (Nat)) => ζ.1 ≤ n ∧ MetOk ζ.2.1 (psTo l ζ.1)) (fun (ζ : (Nat) × (List MapEntry) × (Nat)) => n - ζ.1) ((0, [], ck0)) (⟨Nat.zero_le _, MetOk.nil⟩) Zk Zk rfl tk ?_
 rintro ⟨k, es, ck⟩ hI
 try simp only [List.cons_append, List.nil_append, List.append_assoc, List.append_eq] at hI ⊢
 try dsimp only at hI ⊢
 obtain ⟨hI, hm⟩ := hI
 by_cases hlt : k < n
 ·obtain ⟨b, off, C, T, fr, rfl, hb, hfit, hc⟩ := h.get (show k < l.length by omega)
  have hs := YZ (most := 4) (right := rt) (lt := ltK) (show k < l.length by omega)
  have hfin := fun (e : ZH 4 rt ltK l (k + 1) = false) => YO e (show k + 1 ≤ n by omega)
  have hps := psTo_succ (show k < l.length by omega)
  have hrk : rt k l[k] = kidOk k (psTo l k) l[k] := by rw [← hr]
  cases hok : ZH 4 rt ltK l k
  ·rw [hok, Bool.false_and] at hs
   rw [hfin hs]
   generalize l[k] = x at *
   repeat' (first | (refine Zj ?_; first | (refine Zg ?_; refine qQ ?_) | refine Zl ?_) | refine Za ?_ | (refine Zi ?_; refine Zq ?_) | (refine Zh ?_; refine Zp ?_) | intro _)
   rename_i b11
   refine ZI (Zv _ _ ([[(b11, .cells ⟨Xs x⟩ 224 (0, 0))]])) (ZU (hT := tk) (Hp.le_refl _)) ?_
   all_goals (refine Ye 0 ?_; refine Ye 1 ?_; (first | refine Zd 2 ?_ | refine Zb 2 ?_ | refine ZT 2 ?_); (first | refine Zd 3 ?_ | refine Zb 3 ?_ | refine ZT 3 ?_); (first | refine Zd 4 ?_ | refine Zb 4 ?_ | refine wLd 4 ?_))
   all_goals (first | refine Zd 5 ?_ | refine Zb 5 ?_ | (refine Zt (i := 5) ?_; ((try refine Zr ?_); (first | (refine Zl ?_; try intro _)) <;> ((try simp only [kM, kN, kO]); refine Za ?_; refine Zs ?_))))
   all_goals (refine rPk 6 ?_; refine Ye 7 ?_; (first | refine Zd 8 ?_ | refine Zb 8 ?_ | refine ZT 8 ?_); (first | refine Zd 9 ?_ | refine Zb 9 ?_ | refine wCm 9 ?_); (first | refine Zd 10 ?_ | refine Zb 10 ?_ | refine ZT 10 ?_); (first | refine Zd 11 ?_ | refine Zb 11 ?_ | refine ZT 11 ?_); (first | refine Zd 12 ?_ | refine Zb 12 ?_ | refine ZT 12 ?_); (first | refine Zd 13 ?_ | refine Zb 13 ?_ | refine ZT 13 ?_); (first | refine Zd 14 ?_ | refine Zb 14 ?_ | refine wSb 14 ?_); (first | refine Zd 15 ?_ | refine Zb 15 ?_ | refine wIa 15 ?_); (first | refine Zd 16 ?_ | refine Zb 16 ?_ | refine wLd 16 ?_); (first | refine Zd 18 ?_ | refine Zb 18 ?_ | refine ZT 18 ?_); (first | refine Zd 19 ?_ | refine Zb 19 ?_ | refine wLd 19 ?_))
   all_goals (first | refine Zd 17 ?_ | refine Zb 17 ?_ | (refine Zt (i := 17) ?_; ((try refine Zr ?_); (first | (refine Zl ?_; try intro _)) <;> ((try simp only [kM, kN, kO]); refine Za ?_; refine Zs ?_))))
   all_goals (first | refine Zd 20 ?_ | refine Zb 20 ?_ | (refine Zt (i := 20) ?_; ((try refine Zr ?_); (first | (refine Zl ?_; try intro _)) <;> ((try simp only [kM, kN, kO]); refine Za ?_; refine Zs ?_))))
   all_goals (first | refine Zd 21 ?_ | refine Zb 21 ?_ | (refine Zt (i := 21) ?_; ((try refine Zr ?_); (first | (refine Zl ?_; try intro _)) <;> ((try simp only [kM, kN, kO]); refine Za ?_; refine Zs ?_))))
   all_goals (refine Yi ?_; (first | refine Zd 22 ?_ | refine Zb 22 ?_ | refine wCm 22 ?_); (first | refine Zd 23 ?_ | refine Zb 23 ?_ | refine wPk 23 ?_); refine rPk 24 ?_; refine rAs 25 ?_; refine ZP ?_)
   repeat' (first | (refine Zj ?_; first | (refine Zg ?_; refine qQ ?_) | refine Zl ?_) | refine Za ?_ | (refine Zi ?_; refine Zq ?_) | (refine Zh ?_; refine Zp ?_) | intro _)
   exact qE ⟨rfl, rfl, rfl⟩
  ·rw [hok, Bool.true_and, hrk] at hs
   cases hx : kidOk k (psTo l k) l[k]
   ·rw [hx, Bool.false_and] at hs
    rw [hfin hs]
    generalize l[k] = x at *
    repeat' (first | (refine Zj ?_; first | (refine Zg ?_; refine qQ ?_) | refine Zl ?_) | refine Za ?_ | (refine Zi ?_; refine Zq ?_) | (refine Zh ?_; refine Zp ?_) | intro _)
    rename_i b11
    refine ZI (Zv _ _ ([[(b11, .cells ⟨Xs x⟩ 224 (0, 0))]])) (ZU (hT := tk) (Hp.le_refl _)) ?_
    all_goals (refine Ye 0 ?_; refine Ye 1 ?_; (first | refine Zd 2 ?_ | refine Zb 2 ?_ | refine ZT 2 ?_); (first | refine Zd 3 ?_ | refine Zb 3 ?_ | refine ZT 3 ?_); (first | refine Zd 4 ?_ | refine Zb 4 ?_ | refine wLd 4 ?_))
    all_goals (first | refine Zd 5 ?_ | refine Zb 5 ?_ | (refine Zt (i := 5) ?_; ((try refine Zr ?_); (first | (refine Zc (.tmp 25) ?_; refine qC rfl rfl (YV _ bx mb es ck _ hm k x) ?_; rintro v ρ' L' hle ⟨rfl, rfl, es', ck', hm', rfl⟩ <;> (try simp only [kM, kN, kO, hx])) | (refine Zc (.tmp 34) ?_; refine qC rfl rfl (ZW _ _) ?_; rintro v ρ' L' hle ⟨rfl, rfl, rfl⟩ <;> (try simp only [kM, kN, kO])) | (refine Zc (.tmp 41) ?_; refine qC rfl rfl (ZW _ _) ?_; rintro v ρ' L' hle ⟨rfl, rfl, rfl⟩ <;> (try simp only [kM, kN, kO])) | (refine Zl ?_; try intro _)) <;> ((try simp only [kM, kN, kO]); refine Za ?_; refine Zs ?_))))
    all_goals (refine rPk 6 ?_; refine Ye 7 ?_; (first | refine Zd 8 ?_ | refine Zb 8 ?_ | refine ZT 8 ?_); (first | refine Zd 9 ?_ | refine Zb 9 ?_ | refine wCm 9 ?_); (first | refine Zd 10 ?_ | refine Zb 10 ?_ | refine ZT 10 ?_); (first | refine Zd 11 ?_ | refine Zb 11 ?_ | refine ZT 11 ?_); (first | refine Zd 12 ?_ | refine Zb 12 ?_ | refine ZT 12 ?_); (first | refine Zd 13 ?_ | refine Zb 13 ?_ | refine ZT 13 ?_); (first | refine Zd 14 ?_ | refine Zb 14 ?_ | refine wSb 14 ?_); (first | refine Zd 15 ?_ | refine Zb 15 ?_ | refine wIa 15 ?_); (first | refine Zd 16 ?_ | refine Zb 16 ?_ | refine wLd 16 ?_); (first | refine Zd 18 ?_ | refine Zb 18 ?_ | refine ZT 18 ?_); (first | refine Zd 19 ?_ | refine Zb 19 ?_ | refine wLd 19 ?_))
    all_goals (first | refine Zd 17 ?_ | refine Zb 17 ?_ | (refine Zt (i := 17) ?_; ((try refine Zr ?_); (first | (refine Zc (.tmp 25) ?_; refine qC rfl rfl (YV _ bx mb es ck _ hm k x) ?_; rintro v ρ' L' hle ⟨rfl, rfl, es', ck', hm', rfl⟩ <;> (try simp only [kM, kN, kO, hx])) | (refine Zc (.tmp 34) ?_; refine qC rfl rfl (ZW _ _) ?_; rintro v ρ' L' hle ⟨rfl, rfl, rfl⟩ <;> (try simp only [kM, kN, kO])) | (refine Zc (.tmp 41) ?_; refine qC rfl rfl (ZW _ _) ?_; rintro v ρ' L' hle ⟨rfl, rfl, rfl⟩ <;> (try simp only [kM, kN, kO])) | (refine Zl ?_; try intro _)) <;> ((try simp only [kM, kN, kO]); refine Za ?_; refine Zs ?_))))
    all_goals (first | refine Zd 20 ?_ | refine Zb 20 ?_ | (refine Zt (i := 20) ?_; ((try refine Zr ?_); (first | (refine Zc (.tmp 25) ?_; refine qC rfl rfl (YV _ bx mb es ck _ hm k x) ?_; rintro v ρ' L' hle ⟨rfl, rfl, es', ck', hm', rfl⟩ <;> (try simp only [kM, kN, kO, hx])) | (refine Zc (.tmp 34) ?_; refine qC rfl rfl (ZW _ _) ?_; rintro v ρ' L' hle ⟨rfl, rfl, rfl⟩ <;> (try simp only [kM, kN, kO])) | (refine Zc (.tmp 41) ?_; refine qC rfl rfl (ZW _ _) ?_; rintro v ρ' L' hle ⟨rfl, rfl, rfl⟩ <;> (try simp only [kM, kN, kO])) | (refine Zl ?_; try intro _)) <;> ((try simp only [kM, kN, kO]); refine Za ?_; refine Zs ?_))))
    all_goals (first | refine Zd 21 ?_ | refine Zb 21 ?_ | (refine Zt (i := 21) ?_; ((try refine Zr ?_); (first | (refine Zc (.func 317) ?_; refine qC rfl rfl (Xv _ _ _ _ _) ?_; rintro v ρ' L' hle ⟨rfl, rfl, rfl⟩ <;> (try simp only [kM, kN, kO])) | (refine Zl ?_; try intro _)) <;> ((try simp only [kM, kN, kO]); refine Za ?_; refine Zs ?_))))
    all_goals (refine Yi ?_; (first | refine Zd 22 ?_ | refine Zb 22 ?_ | refine wCm 22 ?_); (first | refine Zd 23 ?_ | refine Zb 23 ?_ | refine wPk 23 ?_); refine rPk 24 ?_; refine rAs 25 ?_; refine ZP ?_)
    repeat' (first | (refine Zj ?_; first | (refine Zg ?_; refine qQ ?_) | refine Zl ?_) | refine Za ?_ | (refine Zi ?_; refine Zq ?_) | (refine Zh ?_; refine Zp ?_) | intro _)
    exact qE ⟨rfl, rfl, rfl⟩
   ·rw [hx, Bool.true_and] at hs
    by_cases hk0 : k = 0
    ·have hs' : ZH 4 rt ltK l (k + 1) = true := by rw [hs]; simp [hk0]
     generalize l[k] = x at *
     repeat' (first | (refine Zj ?_; first | (refine Zg ?_; refine qQ ?_) | refine Zl ?_) | refine Za ?_ | (refine Zi ?_; refine Zq ?_) | (refine Zh ?_; refine Zp ?_) | intro _)
     rename_i b11
     refine ZI (Zv _ _ ([[(b11, .cells ⟨Xs x⟩ 224 (0, 0))]])) (ZU (hT := tk) (Hp.le_refl _)) ?_
     all_goals (refine Ye 0 ?_; refine Ye 1 ?_; (first | refine Zd 2 ?_ | refine Zb 2 ?_ | refine ZT 2 ?_); (first | refine Zd 3 ?_ | refine Zb 3 ?_ | refine ZT 3 ?_); (first | refine Zd 4 ?_ | refine Zb 4 ?_ | refine wLd 4 ?_))
     all_goals (first | refine Zd 5 ?_ | refine Zb 5 ?_ | (refine Zt (i := 5) ?_; ((try refine Zr ?_); (first | (refine Zc (.tmp 25) ?_; refine qC rfl rfl (YV _ bx mb es ck _ hm k x) ?_; rintro v ρ' L' hle ⟨rfl, rfl, es', ck', hm', rfl⟩ <;> (try simp only [kM, kN, kO, hx])) | (refine Zc (.tmp 34) ?_; refine qC rfl rfl (ZW _ _) ?_; rintro v ρ' L' hle ⟨rfl, rfl, rfl⟩ <;> (try simp only [kM, kN, kO])) | (refine Zc (.tmp 41) ?_; refine qC rfl rfl (ZW _ _) ?_; rintro v ρ' L' hle ⟨rfl, rfl, rfl⟩ <;> (try simp only [kM, kN, kO])) | (refine Zl ?_; try intro _)) <;> ((try simp only [kM, kN, kO]); refine Za ?_; refine Zs ?_))))
     all_goals (refine rPk 6 ?_; refine Ye 7 ?_; (first | refine Zd 8 ?_ | refine Zb 8 ?_ | refine ZT 8 ?_); (first | refine Zd 9 ?_ | refine Zb 9 ?_ | refine wCm 9 ?_); (first | refine Zd 10 ?_ | refine Zb 10 ?_ | refine ZT 10 ?_); (first | refine Zd 11 ?_ | refine Zb 11 ?_ | refine ZT 11 ?_); (first | refine Zd 12 ?_ | refine Zb 12 ?_ | refine ZT 12 ?_); (first | refine Zd 13 ?_ | refine Zb 13 ?_ | refine ZT 13 ?_); (first | refine Zd 14 ?_ | refine Zb 14 ?_ | refine wSb 14 ?_); (first | refine Zd 15 ?_ | refine Zb 15 ?_ | refine wIa 15 ?_); (first | refine Zd 16 ?_ | refine Zb 16 ?_ | refine wLd 16 ?_); (first | refine Zd 18 ?_ | refine Zb 18 ?_ | refine ZT 18 ?_); (first | refine Zd 19 ?_ | refine Zb 19 ?_ | refine wLd 19 ?_))
     all_goals (first | refine Zd 17 ?_ | refine Zb 17 ?_ | (refine Zt (i := 17) ?_; ((try refine Zr ?_); (first | (refine Zc (.tmp 25) ?_; refine qC rfl rfl (YV _ bx mb es ck _ hm k x) ?_; rintro v ρ' L' hle ⟨rfl, rfl, es', ck', hm', rfl⟩ <;> (try simp only [kM, kN, kO, hx])) | (refine Zc (.tmp 34) ?_; refine qC rfl rfl (ZW _ _) ?_; rintro v ρ' L' hle ⟨rfl, rfl, rfl⟩ <;> (try simp only [kM, kN, kO])) | (refine Zc (.tmp 41) ?_; refine qC rfl rfl (ZW _ _) ?_; rintro v ρ' L' hle ⟨rfl, rfl, rfl⟩ <;> (try simp only [kM, kN, kO])) | (refine Zl ?_; try intro _)) <;> ((try simp only [kM, kN, kO]); refine Za ?_; refine Zs ?_))))
     all_goals (first | refine Zd 20 ?_ | refine Zb 20 ?_ | (refine Zt (i := 20) ?_; ((try refine Zr ?_); (first | (refine Zc (.tmp 25) ?_; refine qC rfl rfl (YV _ bx mb es ck _ hm k x) ?_; rintro v ρ' L' hle ⟨rfl, rfl, es', ck', hm', rfl⟩ <;> (try simp only [kM, kN, kO, hx])) | (refine Zc (.tmp 34) ?_; refine qC rfl rfl (ZW _ _) ?_; rintro v ρ' L' hle ⟨rfl, rfl, rfl⟩ <;> (try simp only [kM, kN, kO])) | (refine Zc (.tmp 41) ?_; refine qC rfl rfl (ZW _ _) ?_; rintro v ρ' L' hle ⟨rfl, rfl, rfl⟩ <;> (try simp only [kM, kN, kO])) | (refine Zl ?_; try intro _)) <;> ((try simp only [kM, kN, kO]); refine Za ?_; refine Zs ?_))))
     all_goals (first | refine Zd 21 ?_ | refine Zb 21 ?_ | (refine Zt (i := 21) ?_; ((try refine Zr ?_); (first | (refine Zc (.func 317) ?_; refine qC rfl rfl (Xv _ _ _ _ _) ?_; rintro v ρ' L' hle ⟨rfl, rfl, rfl⟩ <;> (try simp only [kM, kN, kO])) | (refine Zl ?_; try intro _)) <;> ((try simp only [kM, kN, kO]); refine Za ?_; refine Zs ?_))))
     all_goals (refine Yi ?_; (first | refine Zd 22 ?_ | refine Zb 22 ?_ | refine wCm 22 ?_); (first | refine Zd 23 ?_ | refine Zb 23 ?_ | refine wPk 23 ?_); refine rPk 24 ?_; refine rAs 25 ?_; refine ZP ?_)
     repeat' (first | (refine Zj ?_; first | (refine Zg ?_; refine qQ ?_) | refine Zl ?_) | refine Za ?_ | (refine Zi ?_; refine Zq ?_) | (refine Zh ?_; refine Zp ?_) | intro _)
     rw [← hs']
     refine Zo (k + 1, es', ck') (⟨hlt, by dsimp only; rw [hps]; exact hm'⟩) Zk Zk rfl tk inferInstance (by first | omega | (dsimp only; omega))
    ·have hd : decide (k = 0) = false := decide_eq_false hk0
     obtain ⟨b2, off2, C2, T2, fr2, f1, hb2, hfit2, hc2⟩ := h.get (show k - 1 < l.length by omega)
     cases f1
     rw [hb] at hb2
     cases hb2
     have ek : ((k : Int) - 1).toNat = k - 1 := by omega
     rw [← ek] at hfit2
     have hc3 : List.take 3 (List.drop (off + ((k : Int) - 1).toNat * 3) C) = Xs (l[k - 1]'(by omega)) := by rw [ek]; exact hc2
     clear hc2
     rw [hd, Bool.false_or] at hs
     generalize l[k] = x at *
     generalize l[k - 1]'(by omega) = y at *
     unfold ltK at hs
     by_cases hcm : cmpK y.t y.id x.t x.id < 0
     ·rw [decide_eq_true hcm] at hs
      repeat' (first | (refine Zj ?_; first | (refine Zg ?_; refine qQ ?_) | refine Zl ?_) | refine Za ?_ | (refine Zi ?_; refine Zq ?_) | (refine Zh ?_; refine Zp ?_) | intro _)
      rename_i b11
      refine ZI (Zv _ _ ([[(b11, .cells ⟨Xs x⟩ 224 (0, 0))]])) (ZU (hT := tk) (Hp.le_refl _)) ?_
      all_goals (refine Ye 0 ?_; refine Ye 1 ?_; (first | refine Zd 2 ?_ | refine Zb 2 ?_ | refine ZT 2 ?_); (first | refine Zd 3 ?_ | refine Zb 3 ?_ | refine ZT 3 ?_); (first | refine Zd 4 ?_ | refine Zb 4 ?_ | refine wLd 4 ?_))
      all_goals (first | refine Zd 5 ?_ | refine Zb 5 ?_ | (refine Zt (i := 5) ?_; ((try refine Zr ?_); (first | (refine Zc (.tmp 25) ?_; refine qC rfl rfl (YV _ bx mb es ck _ hm k x) ?_; rintro v ρ' L' hle ⟨rfl, rfl, es', ck', hm', rfl⟩ <;> (try simp only [kM, kN, kO, hx])) | (refine Zc (.tmp 34) ?_; refine qC rfl rfl (ZW _ _) ?_; rintro v ρ' L' hle ⟨rfl, rfl, rfl⟩ <;> (try simp only [kM, kN, kO])) | (refine Zc (.tmp 41) ?_; refine qC rfl rfl (ZW _ _) ?_; rintro v ρ' L' hle ⟨rfl, rfl, rfl⟩ <;> (try simp only [kM, kN, kO])) | (refine Zl ?_; try intro _)) <;> ((try simp only [kM, kN, kO]); refine Za ?_; refine Zs ?_))))
      all_goals (refine rPk 6 ?_; refine Ye 7 ?_; (first | refine Zd 8 ?_ | refine Zb 8 ?_ | refine ZT 8 ?_); (first | refine Zd 9 ?_ | refine Zb 9 ?_ | refine wCm 9 ?_); (first | refine Zd 10 ?_ | refine Zb 10 ?_ | refine ZT 10 ?_); (first | refine Zd 11 ?_ | refine Zb 11 ?_ | refine ZT 11 ?_); (first | refine Zd 12 ?_ | refine Zb 12 ?_ | refine ZT 12 ?_); (first | refine Zd 13 ?_ | refine Zb 13 ?_ | refine ZT 13 ?_); (first | refine Zd 14 ?_ | refine Zb 14 ?_ | refine wSb 14 ?_); (first | refine Zd 15 ?_ | refine Zb 15 ?_ | refine wIa 15 ?_); (first | refine Zd 16 ?_ | refine Zb 16 ?_ | refine wLd 16 ?_); (first | refine Zd 18 ?_ | refine Zb 18 ?_ | refine ZT 18 ?_); (first | refine Zd 19 ?_ | refine Zb 19 ?_ | refine wLd 19 ?_))
      all_goals (first | refine Zd 17 ?_ | refine Zb 17 ?_ | (refine Zt (i := 17) ?_; ((try refine Zr ?_); (first | (refine Zc (.tmp 25) ?_; refine qC rfl rfl (YV _ bx mb es ck _ hm k x) ?_; rintro v ρ' L' hle ⟨rfl, rfl, es', ck', hm', rfl⟩ <;> (try simp only [kM, kN, kO, hx])) | (refine Zc (.tmp 34) ?_; refine qC rfl rfl (ZW _ _) ?_; rintro v ρ' L' hle ⟨rfl, rfl, rfl⟩ <;> (try simp only [kM, kN, kO])) | (refine Zc (.tmp 41) ?_; refine qC rfl rfl (ZW _ _) ?_; rintro v ρ' L' hle ⟨rfl, rfl, rfl⟩ <;> (try simp only [kM, kN, kO])) | (refine Zl ?_; try intro _)) <;> ((try simp only [kM, kN, kO]); refine Za ?_; refine Zs ?_))))
      all_goals (first | refine Zd 20 ?_ | refine Zb 20 ?_ | (refine Zt (i := 20) ?_; ((try refine Zr ?_); (first | (refine Zc (.tmp 25) ?_; refine qC rfl rfl (YV _ bx mb es ck _ hm k x) ?_; rintro v ρ' L' hle ⟨rfl, rfl, es', ck', hm', rfl⟩ <;> (try simp only [kM, kN, kO, hx])) | (refine Zc (.tmp 34) ?_; refine qC rfl rfl (ZW _ _) ?_; rintro v ρ' L' hle ⟨rfl, rfl, rfl⟩ <;> (try simp only [kM, kN, kO])) | (refine Zc (.tmp 41) ?_; refine qC rfl rfl (ZW _ _) ?_; rintro v ρ' L' hle ⟨rfl, rfl, rfl⟩ <;> (try simp only [kM, kN, kO])) | (refine Zl ?_; try intro _)) <;> ((try simp only [kM, kN, kO]); refine Za ?_; refine Zs ?_))))
      all_goals (first | refine Zd 21 ?_ | refine Zb 21 ?_ | (refine Zt (i := 21) ?_; ((try refine Zr ?_); (first | (refine Zc (.func 317) ?_; refine qC rfl rfl (Xv _ _ _ _ _) ?_; rintro v ρ' L' hle ⟨rfl, rfl, rfl⟩ <;> (try simp only [kM, kN, kO])) | (refine Zl ?_; try intro _)) <;> ((try simp only [kM, kN, kO]); refine Za ?_; refine Zs ?_))))
      all_goals (refine Yi ?_; (first | refine Zd 22 ?_ | refine Zb 22 ?_ | refine wCm 22 ?_); (first | refine Zd 23 ?_ | refine Zb 23 ?_ | refine wPk 23 ?_); refine rPk 24 ?_; refine rAs 25 ?_; refine ZP ?_)
      all_goals (repeat' (first | (refine Zj ?_; first | (refine Zg ?_; refine qQ ?_) | refine Zl ?_) | refine Za ?_ | (refine Zi ?_; refine Zq ?_) | (refine Zh ?_; refine Zp ?_) | intro _))
      all_goals rw [← show ZH 4 rt ltK l (k + 1) = true from hs]
      all_goals refine Zo (k + 1, es', ck') (⟨hlt, by dsimp only; rw [hps]; exact hm'⟩) Zk Zk rfl tk inferInstance (by first | omega | (dsimp only; omega))
     ·rw [decide_eq_false hcm] at hs
      rw [hfin hs]
      repeat' (first | (refine Zj ?_; first | (refine Zg ?_; refine qQ ?_) | refine Zl ?_) | refine Za ?_ | (refine Zi ?_; refine Zq ?_) | (refine Zh ?_; refine Zp ?_) | intro _)
      rename_i b11
      refine ZI (Zv _ _ ([[(b11, .cells ⟨Xs x⟩ 224 (0, 0))]])) (ZU (hT := tk) (Hp.le_refl _)) ?_
      all_goals (refine Ye 0 ?_; refine Ye 1 ?_; (first | refine Zd 2 ?_ | refine Zb 2 ?_ | refine ZT 2 ?_); (first | refine Zd 3 ?_ | refine Zb 3 ?_ | refine ZT 3 ?_); (first | refine Zd 4 ?_ | refine Zb 4 ?_ | refine wLd 4 ?_))
      all_goals (first | refine Zd 5 ?_ | refine Zb 5 ?_ | (refine Zt (i := 5) ?_; ((try refine Zr ?_); (first | (refine Zc (.tmp 25) ?_; refine qC rfl rfl (YV _ bx mb es ck _ hm k x) ?_; rintro v ρ' L' hle ⟨rfl, rfl, es', ck', hm', rfl⟩ <;> (try simp only [kM, kN, kO, hx])) | (refine Zc (.tmp 34) ?_; refine qC rfl rfl (ZW _ _) ?_; rintro v ρ' L' hle ⟨rfl, rfl, rfl⟩ <;> (try simp only [kM, kN, kO])) | (refine Zc (.tmp 41) ?_; refine qC rfl rfl (ZW _ _) ?_; rintro v ρ' L' hle ⟨rfl, rfl, rfl⟩ <;> (try simp only [kM, kN, kO])) | (refine Zl ?_; try intro _)) <;> ((try simp only [kM, kN, kO]); refine Za ?_; refine Zs ?_))))
      all_goals (refine rPk 6 ?_; refine Ye 7 ?_; (first | refine Zd 8 ?_ | refine Zb 8 ?_ | refine ZT 8 ?_); (first | refine Zd 9 ?_ | refine Zb 9 ?_ | refine wCm 9 ?_); (first | refine Zd 10 ?_ | refine Zb 10 ?_ | refine ZT 10 ?_); (first | refine Zd 11 ?_ | refine Zb 11 ?_ | refine ZT 11 ?_); (first | refine Zd 12 ?_ | refine Zb 12 ?_ | refine ZT 12 ?_); (first | refine Zd 13 ?_ | refine Zb 13 ?_ | refine ZT 13 ?_); (first | refine Zd 14 ?_ | refine Zb 14 ?_ | refine wSb 14 ?_); (first | refine Zd 15 ?_ | refine Zb 15 ?_ | refine wIa 15 ?_); (first | refine Zd 16 ?_ | refine Zb 16 ?_ | refine wLd 16 ?_); (first | refine Zd 18 ?_ | refine Zb 18 ?_ | refine ZT 18 ?_); (first | refine Zd 19 ?_ | refine Zb 19 ?_ | refine wLd 19 ?_))
      all_goals (first | refine Zd 17 ?_ | refine Zb 17 ?_ | (refine Zt (i := 17) ?_; ((try refine Zr ?_); (first | (refine Zc (.tmp 25) ?_; refine qC rfl rfl (YV _ bx mb es ck _ hm k x) ?_; rintro v ρ' L' hle ⟨rfl, rfl, es', ck', hm', rfl⟩ <;> (try simp only [kM, kN, kO, hx])) | (refine Zc (.tmp 34) ?_; refine qC rfl rfl (ZW _ _) ?_; rintro v ρ' L' hle ⟨rfl, rfl, rfl⟩ <;> (try simp only [kM, kN, kO])) | (refine Zc (.tmp 41) ?_; refine qC rfl rfl (ZW _ _) ?_; rintro v ρ' L' hle ⟨rfl, rfl, rfl⟩ <;> (try simp only [kM, kN, kO])) | (refine Zl ?_; try intro _)) <;> ((try simp only [kM, kN, kO]); refine Za ?_; refine Zs ?_))))
      all_goals (first | refine Zd 20 ?_ | refine Zb 20 ?_ | (refine Zt (i := 20) ?_; ((try refine Zr ?_); (first | (refine Zc (.tmp 25) ?_; refine qC rfl rfl (YV _ bx mb es ck _ hm k x) ?_; rintro v ρ' L' hle ⟨rfl, rfl, es', ck', hm', rfl⟩ <;> (try simp only [kM, kN, kO, hx])) | (refine Zc (.tmp 34) ?_; refine qC rfl rfl (ZW _ _) ?_; rintro v ρ' L' hle ⟨rfl, rfl, rfl⟩ <;> (try simp only [kM, kN, kO])) | (refine Zc (.tmp 41) ?_; refine qC rfl rfl (ZW _ _) ?_; rintro v ρ' L' hle ⟨rfl, rfl, rfl⟩ <;> (try simp only [kM, kN, kO])) | (refine Zl ?_; try intro _)) <;> ((try simp only [kM, kN, kO]); refine Za ?_; refine Zs ?_))))
      all_goals (first | refine Zd 21 ?_ | refine Zb 21 ?_ | (refine Zt (i := 21) ?_; ((try refine Zr ?_); (first | (refine Zc (.func 317) ?_; refine qC rfl rfl (Xv _ _ _ _ _) ?_; rintro v ρ' L' hle ⟨rfl, rfl, rfl⟩ <;> (try simp only [kM, kN, kO])) | (refine Zl ?_; try intro _)) <;> ((try simp only [kM, kN, kO]); refine Za ?_; refine Zs ?_))))
      all_goals (refine Yi ?_; (first | refine Zd 22 ?_ | refine Zb 22 ?_ | refine wCm 22 ?_); (first | refine Zd 23 ?_ | refine Zb 23 ?_ | refine wPk 23 ?_); refine rPk 24 ?_; refine rAs 25 ?_; refine ZP ?_)
      all_goals (repeat' (first | (refine Zj ?_; first | (refine Zg ?_; refine qQ ?_) | refine Zl ?_) | refine Za ?_ | (refine Zi ?_; refine Zq ?_) | (refine Zh ?_; refine Zp ?_) | intro _))
      all_goals exact qE ⟨rfl, rfl, rfl⟩
 ·have hk2 : k = n := by omega
  subst hk2
  repeat' (first | (refine Zj ?_; first | (refine Zg ?_; refine qQ ?_) | refine Zl ?_) | refine Za ?_ | (refine Zi ?_; refine Zq ?_) | (refine Zh ?_; refine Zp ?_) | intro _)
  exact qE ⟨rfl, rfl, rfl⟩
structure CV where
 ra : Option Addr
 rn : Nat
 rc : Nat
 ka : Option Addr
 kn : Nat
 kc : Nat
structure XQ where
 kind : Int
 rows : List Row
 kids : List Kid
deriving DecidableEq
abbrev XJ (k : Int) (v : CV) : List Value := [.int .i64 k, .slice v.ra v.rn v.rc, .slice v.ka v.kn v.kc]
structure CIn (ρ : Hp) (v : CV) (rows : List Row) (kids : List Kid) : Prop where
 r : AIn ρ 4 YY v.ra v.rn rows
 k : AIn ρ 3 Xs v.ka v.kn kids
 rb : v.rn ≤ 1000000
 kb : v.kn ≤ 1000000
 rc : v.rn ≤ v.rc
 kc : v.kn ≤ v.kc
theorem CIn.mono {ρ ρ' v rows kids} (h : CIn ρ v rows kids) (hle : ρ.le ρ') : CIn ρ' v rows kids := ⟨h.r.mono hle, h.k.mono hle, h.rb, h.kb, h.rc, h.kc⟩
theorem leafc_spec (ρ : Hp) (a : Option Addr) (n c : Nat) (l : List Row) (h : AIn ρ 4 YY a n l) (hn : n ≤ 1000000) : Spec Tryz.prog 282 [.slice a n c] ρ [] (fun v ρ' L' => v = .bool (rowsOk l) ∧ ρ' = ρ ∧ L' = []) := by
 refine Zf Tryz.func282 rfl rfl rfl fun u R => ?_
 simp only [Zx, List.cons_append, List.nil_append]
 repeat' (first | (refine Zc (.func 302) ?_; refine qC rfl rfl (risesRow_spec _ a n c l h hn) ?_; rintro v ρ' L' hle ⟨rfl, rfl, rfl⟩ <;> (try simp only [kM, kN, kO])) | (refine Zj ?_; first | (refine Zg ?_; refine qQ ?_) | refine Zl ?_) | refine Za ?_ | (refine Zi ?_; refine Zq ?_) | (refine Zh ?_; refine Zp ?_) | intro _)
 exact qE ⟨rfl, rfl, rfl⟩
theorem innerc_spec (ρ : Hp) (a : Option Addr) (n c : Nat) (l : List Kid) (h : AIn ρ 3 Xs a n l) (hn : n ≤ 1000000) : Spec Tryz.prog 283 [.slice a n c] ρ [] (fun v ρ' L' => v = .bool (decide (1 < n) && kidsOk l) ∧ ρ' = ρ ∧ L' = []) := by
 refine Zf Tryz.func283 rfl rfl rfl fun u R => ?_
 simp only [Zx, List.cons_append, List.nil_append]
 by_cases h1 : 1 < n
 ·rw [decide_eq_true h1, Bool.true_and]
  repeat' (first | (refine Zc (.func 305) ?_; refine qC rfl rfl (risesKid_spec _ a n c l h hn _ _ _) ?_; rintro v ρ' L' hle ⟨rfl, rfl, rfl⟩ <;> (try simp only [kM, kN, kO])) | (refine Zj ?_; first | (refine Zg ?_; refine qQ ?_) | refine Zl ?_) | refine Za ?_ | (refine Zi ?_; refine Zq ?_) | (refine Zh ?_; refine Zp ?_) | intro _)
  exact qE ⟨rfl, rfl, rfl⟩
 ·rw [decide_eq_false h1, Bool.false_and]
  repeat' (first | (refine Zj ?_; first | (refine Zg ?_; refine qQ ?_) | refine Zl ?_) | refine Za ?_ | (refine Zi ?_; refine Zq ?_) | (refine Zh ?_; refine Zp ?_) | intro _)
  exact qE ⟨rfl, rfl, rfl⟩
def ZQ (c : XQ) : Bool :=
 if c.kind = 0 then decide (c.rows.length + c.kids.length = 0)
 else if c.kind = 1 then decide (c.kids.length = 0) && rowsOk c.rows
 else if c.kind = 2 then decide (c.rows.length = 0) && (decide (1 < c.kids.length) && kidsOk c.kids)
 else false
theorem XG (ρ : Hp) (v : CV) (c : XQ) (h : CIn ρ v c.rows c.kids) : Spec Tryz.prog 251 [.agg ⟨XJ c.kind v⟩] ρ [] (fun r ρ' L' => r = .int .i64 (if ZQ c then 0 else 160) ∧ ρ' = ρ ∧ L' = []) := by
 obtain ⟨kind, rows, kids⟩ := c
 obtain ⟨ra, rn, rc, ka, kn, kc⟩ := v
 obtain ⟨hr, hk, hrb, hkb, _, _⟩ := h
 dsimp only at hr hk hrb hkb
 have hrl := hr.len
 have hkl := hk.len
 have hrs := leafc_spec ρ ra rn rc rows hr hrb
 have hks := innerc_spec ρ ka kn kc kids hk hkb
 generalize hq : ZQ ⟨kind, rows, kids⟩ = q
 unfold ZQ at hq
 simp only [hrl, hkl] at hq
 refine Zf Tryz.func251 rfl rfl rfl fun u R => ?_
 simp only [Zx, List.cons_append, List.nil_append]
 by_cases k0 : kind = 0
 ·rw [if_pos k0] at hq
  by_cases hz : rn + kn = 0
  ·rw [decide_eq_true hz] at hq
   subst hq
   repeat' (first | (refine Zj ?_; first | (refine Zg ?_; refine qQ ?_) | refine Zl ?_) | refine Za ?_ | (refine Zi ?_; refine Zq ?_) | (refine Zh ?_; refine Zp ?_) | intro _)
   exact qE ⟨rfl, rfl, rfl⟩
  ·rw [decide_eq_false hz] at hq
   subst hq
   repeat' (first | (refine Zj ?_; first | (refine Zg ?_; refine qQ ?_) | refine Zl ?_) | refine Za ?_ | (refine Zi ?_; refine Zq ?_) | (refine Zh ?_; refine Zp ?_) | intro _)
   exact qE ⟨rfl, rfl, rfl⟩
 ·rw [if_neg k0] at hq
  by_cases k1 : kind = 1
  ·rw [if_pos k1] at hq
   by_cases hz : kn = 0
   ·rw [decide_eq_true hz, Bool.true_and] at hq
    rw [hq] at hrs
    cases q
    all_goals (repeat' (first | (refine Zc (.func 282) ?_; refine qC rfl rfl (hrs) ?_; rintro v ρ' L' hle ⟨rfl, rfl, rfl⟩ <;> (try simp only [kM, kN, kO])) | (refine Zj ?_; first | (refine Zg ?_; refine qQ ?_) | refine Zl ?_) | refine Za ?_ | (refine Zi ?_; refine Zq ?_) | (refine Zh ?_; refine Zp ?_) | intro _))
    all_goals exact qE ⟨rfl, rfl, rfl⟩
   ·rw [decide_eq_false hz, Bool.false_and] at hq
    subst hq
    repeat' (first | (refine Zj ?_; first | (refine Zg ?_; refine qQ ?_) | refine Zl ?_) | refine Za ?_ | (refine Zi ?_; refine Zq ?_) | (refine Zh ?_; refine Zp ?_) | intro _)
    exact qE ⟨rfl, rfl, rfl⟩
  ·rw [if_neg k1] at hq
   by_cases k2 : kind = 2
   ·rw [if_pos k2] at hq
    by_cases hz : rn = 0
    ·rw [decide_eq_true hz, Bool.true_and] at hq
     rw [hq] at hks
     cases q
     all_goals (repeat' (first | (refine Zc (.func 283) ?_; refine qC rfl rfl (hks) ?_; rintro v ρ' L' hle ⟨rfl, rfl, rfl⟩ <;> (try simp only [kM, kN, kO])) | (refine Zj ?_; first | (refine Zg ?_; refine qQ ?_) | refine Zl ?_) | refine Za ?_ | (refine Zi ?_; refine Zq ?_) | (refine Zh ?_; refine Zp ?_) | intro _))
     all_goals exact qE ⟨rfl, rfl, rfl⟩
    ·rw [decide_eq_false hz, Bool.false_and] at hq
     subst hq
     repeat' (first | (refine Zj ?_; first | (refine Zg ?_; refine qQ ?_) | refine Zl ?_) | refine Za ?_ | (refine Zi ?_; refine Zq ?_) | (refine Zh ?_; refine Zp ?_) | intro _)
     exact qE ⟨rfl, rfl, rfl⟩
   ·rw [if_neg k2] at hq
    subst hq
    repeat' (first | (refine Zj ?_; first | (refine Zg ?_; refine qQ ?_) | refine Zl ?_) | refine Za ?_ | (refine Zi ?_; refine Zq ?_) | (refine Zh ?_; refine Zp ?_) | intro _)
    exact qE ⟨rfl, rfl, rfl⟩
def Xp {α : Type} (f : List UInt8 → Int → Bool → α × Yo) : Nat → List UInt8 → Int → Bool → List α × Yo
 | 0, l, st, bad => ([], l, st, bad)
 | n + 1, l, st, bad => if !bad && decide (st = 0) then ((f l st bad).1 :: (Xp f n (f l st bad).2.1 (f l st bad).2.2.1 (f l st bad).2.2.2).1, (Xp f n (f l st bad).2.1 (f l st bad).2.2.1 (f l st bad).2.2.2).2) else ([], l, st, bad)
theorem manyTo_stop {α : Type} {f : List UInt8 → Int → Bool → α × Yo} {n : Nat} {l : List UInt8} {st : Int} {bad : Bool} (h : (!bad && decide (st = 0)) = false) : Xp f n l st bad = ([], l, st, bad) := by
 cases n with
 | zero => rfl
 | succ n => rw [Xp, h]; rfl
def YW {α : Type} (f : List UInt8 → Int → Bool → α × Yo) (l : List UInt8) (st : Int) (bad : Bool) : List α × Yo :=
 Xp f (Yk 1 l st).1 (Yk 1 l st).2.1 (Yk 1 l st).2.2 (Xi bad (Yk 1 l st).2.2 (decide (((Yk 1 l st).1 : Int) ≤ 4)))
theorem manyRow_spec (ρ : Hp) (bt br : Nat) (all : Int) (bad : Bool) (vk vr vs : Value) (a : Option Addr) (n c : Nat) (l : List UInt8) (h : SIn ρ ZM a n l) (hc : n ≤ c) (st : Int) :
  Spec Tryz.prog 299 [.pointer (some ⟨bt, 0, none⟩), .int .i64 4, .func (.func 241) ⟨[.pointer (some ⟨bt, 0, none⟩)]⟩ ⟨[]⟩] ρ [tkC bt br all bad vk vr vs, rdC br a n c st]
   (fun v ρ' L' => ρ.le ρ' ∧ ∃ sa sn sc a' n' c', v = .slice sa sn sc ∧ sn ≤ sc ∧ sn ≤ 255 ∧ AIn ρ' 4 YY sa sn (YW XL l st bad).1 ∧ SIn ρ' ZM a' n' (YW XL l st bad).2.1 ∧ n' ≤ c' ∧ L' = [tkC bt br all (YW XL l st bad).2.2.2 vk vr vs, rdC br a' n' c' (YW XL l st bad).2.2.1]) := by
 have hn1 := u8_spec ρ br a n c l h hc st
 have hb1 := Wc 1 l st
 generalize hq : YW XL l st bad = q
 unfold YW at hq
 generalize Yk 1 l st = r1 at *
 obtain ⟨x1, l1, st1⟩ := r1
 dsimp only at hq hn1 hb1
 have hb255 : x1 < 256 := by simpa using hb1
 generalize hB1 : Xi bad st1 (decide ((x1 : Int) ≤ 4)) = b1 at *
 refine Zf Tryz.func299 rfl rfl rfl fun u R => ?_
 simp only [Zx, List.cons_append, List.nil_append]
 repeat' (first | (refine Zc (.func 80) ?_; refine qC rfl rfl (hn1) ?_; rintro v ρ' L' hle ⟨rfl, rfl, a1, n1, c1, h1, hc1, rfl⟩ <;> (try simp only [kM, kN, kO])) | (refine Zc (.func 276) ?_; refine qC rfl rfl (Xd _ bt br all bad vk vr vs a1 n1 c1 st1 (decide ((x1 : Int) ≤ 4))) ?_; rintro v ρ' L' hle ⟨rfl, rfl, rfl⟩ <;> (try simp only [kM, kN, kO, hB1])) | (refine Zj ?_; first | (refine Zg ?_; refine qQ ?_) | refine Zl ?_) | refine Za ?_ | (refine Zi ?_; refine Zq ?_) | (refine Zh ?_; refine Zp ?_) | intro _)
 refine Zy [(0, _), (2, _), (6, _), (7, _)] (fun (ζ : (Nat) × (Hp) × (Value) × (List Value) × (List Row) × (Option Addr) × (Nat) × (Nat) × (List UInt8) × (Int) × (Bool)) => [(9, .int .i64 ζ.1), (8, ζ.2.2.1)]) (fun (ζ : (Nat) × (Hp) × (Value) × (List Value) × (List Row) × (Option Addr) × (Nat) × (Nat) × (List UInt8) × (Int) × (Bool)) => ζ.2.1) (fun (ζ : (Nat) × (Hp) × (Value) × (List Value) × (List Row) × (Option Addr) × (Nat) × (Nat) × (List UInt8) × (Int) × (Bool)) => [Yu ζ.2.2.1 ((ζ.2.2.2.2.1.map YY).flatten) ζ.2.2.2.1 101, tkC bt br all ζ.2.2.2.2.2.2.2.2.2.2 vk vr vs, rdC br ζ.2.2.2.2.2.1 ζ.2.2.2.2.2.2.1 ζ.2.2.2.2.2.2.2.1 ζ.2.2.2.2.2.2.2.2.2.1]) (fun (ζ : (Nat) × (Hp) × (Value) × (List Value) × (List Row) × (Option Addr) × (Nat) × (Nat) × (List UInt8) × (Int) × (Bool)) => ζ.1 ≤ x1 ∧ ρ'.le ζ.2.1 ∧ OwnS ζ.2.2.1 ζ.1 ((ζ.2.2.2.2.1.map YY).flatten) ζ.2.2.2.1 4 ∧ ζ.2.2.2.2.1.length = ζ.1 ∧ SIn ζ.2.1 ZM ζ.2.2.2.2.2.1 ζ.2.2.2.2.2.2.1 ζ.2.2.2.2.2.2.2.2.1 ∧ ζ.2.2.2.2.2.2.1 ≤ ζ.2.2.2.2.2.2.2.1 ∧ q = (ζ.2.2.2.2.1 ++ (Xp XL (x1 - ζ.1) ζ.2.2.2.2.2.2.2.2.1 ζ.2.2.2.2.2.2.2.2.2.1 ζ.2.2.2.2.2.2.2.2.2.2).1, (Xp XL (x1 - ζ.1) ζ.2.2.2.2.2.2.2.2.1 ζ.2.2.2.2.2.2.2.2.2.1 ζ.2.2.2.2.2.2.2.2.2.2).2)) (fun (ζ : (Nat) × (Hp) × (Value) × (List Value) × (List Row) × (Option Addr) × (Nat) × (Nat) × (List UInt8) × (Int) × (Bool)) => x1 - ζ.1) ((0, ρ', .slice none 0 0, [], [], a1, n1, c1, l1, st1, b1)) (⟨Nat.zero_le _, Hp.le_refl _, OwnS.nil 4, rfl, h1, hc1, by simp [hq]⟩) Zk Zk rfl tk ?_
 rintro ⟨i, ρ1, v, sp, acc, a2, n2, c2, l2, st2, bad2⟩ hI
 try simp only [List.cons_append, List.nil_append, List.append_assoc, List.append_eq] at hI ⊢
 try dsimp only at hI ⊢
 obtain ⟨hi, hle1, hown, hal, h2, hc2, hq2⟩ := hI
 obtain ⟨va, vc, rfl, _⟩ := hown.len
 have hg : ∀ x ∈ acc, (YY x).length = 4 := fun x _ => rowV_len x
 by_cases hlt : i < x1
 ·cases hok : (!bad2 && decide (st2 = 0))
  ·rw [manyTo_stop hok] at hq2
   simp only [List.append_nil] at hq2
   subst hq2
   repeat' (first | (refine Zc (.func 279) ?_; refine qC rfl rfl (ok_spec _ bt br all bad2 vk vr vs a2 n2 c2 st2) ?_; rintro v ρ' L' hle ⟨rfl, rfl, rfl⟩ <;> (try simp only [kM, kN, kO, hok])) | (refine Zj ?_; first | (refine Zg ?_; refine qQ ?_) | refine Zl ?_) | refine Za ?_ | (refine Zi ?_; refine Zq ?_) | (refine Zh ?_; refine Zp ?_) | intro _)
   refine YB (Yu (.slice va i vc) ((acc.map YY).flatten) sp 101) (fun ρ3 hle3 hfz => ?_)
   obtain ⟨sa, sc, e1, hsc, hA⟩ := hown.aIn hal hg hfz
   cases e1
   exact qE ⟨Hp.le_trans hle1 hle3, _, _, _, a2, n2, c2, rfl, hsc, by omega, hA, h2.mono hle3, hc2, rfl⟩
  ·rw [show x1 - i = (x1 - (i + 1)) + 1 by omega, Xp, if_pos hok] at hq2
   have hrow := fun ρ h => trow_spec ρ bt br all bad2 vk vr vs a2 n2 c2 l2 h hc2 st2
   generalize XL l2 st2 bad2 = r at *
   obtain ⟨x, l3, st3, bad3⟩ := r
   dsimp only at hq2 hrow
   repeat' (first | (refine Zc (.func 279) ?_; refine qC rfl rfl (ok_spec _ bt br all bad2 vk vr vs a2 n2 c2 st2) ?_; rintro v ρ' L' hle ⟨rfl, rfl, rfl⟩ <;> (try simp only [kM, kN, kO, hok])) | (refine Zc (.tmp 31) ?_; refine qC rfl rfl (hrow _ h2) ?_; rintro v ρ' L' hle ⟨rfl, hle3, a3, n3, c3, h3, hc3, rfl⟩ <;> (try simp only [kM, kN, kO])) | (refine Zj ?_; first | (refine Zg ?_; refine qQ ?_) | refine Zl ?_) | refine Za ?_ | (refine Zi ?_; refine Zq ?_) | (refine Zh ?_; refine Zp ?_) | intro _)
   refine ZE (css := [YY x]) (sz := 4) rfl rfl rfl rfl (by simp) (by simp) rfl (fun bs => ?_)
   simp only [List.flatten_cons, List.flatten_nil, List.append_nil]
   refine Yt (ys := YY x) (m := 1) rfl rfl hown (hR := by infer_instance) (SrcV.lit) rfl rfl (by decide) rfl (by omega) (by omega) rfl (fun v' sp' hown' => ?_)
   have hm : (acc.map YY).flatten ++ YY x = ((acc ++ [x]).map YY).flatten := by simp
   rw [hm] at hown' ⊢
   repeat' (first | (refine Zj ?_; first | (refine Zg ?_; refine qQ ?_) | refine Zl ?_) | refine Za ?_ | (refine Zi ?_; refine Zq ?_) | (refine Zh ?_; refine Zp ?_) | intro _)
   refine Zo (i + 1, _, v', sp', acc ++ [x], a3, n3, c3, l3, st3, bad3) (⟨hlt, Hp.le_trans hle1 hle3, hown', by simp [hal], h3, hc3, by rw [hq2]; simp⟩) Zk Zk rfl tk inferInstance (by first | omega | (dsimp only; omega))
 ·have hi2 : i = x1 := by omega
  subst hi2
  rw [Nat.sub_self, Xp] at hq2
  simp only [List.append_nil] at hq2
  subst hq2
  repeat' (first | (refine Zj ?_; first | (refine Zg ?_; refine qQ ?_) | refine Zl ?_) | refine Za ?_ | (refine Zi ?_; refine Zq ?_) | (refine Zh ?_; refine Zp ?_) | intro _)
  refine YB (Yu (.slice va i vc) ((acc.map YY).flatten) sp 101) (fun ρ3 hle3 hfz => ?_)
  obtain ⟨sa, sc, e1, hsc, hA⟩ := hown.aIn hal hg hfz
  cases e1
  exact qE ⟨Hp.le_trans hle1 hle3, _, _, _, a2, n2, c2, rfl, hsc, by omega, hA, h2.mono hle3, hc2, rfl⟩
def Xy (l : List UInt8) (st : Int) (bad : Bool) : Kid × Yo := ((kidR l st).1, (kidR l st).2.1, (kidR l st).2.2, bad)
theorem tkidB_spec (ρ : Hp) (bt br : Nat) (all : Int) (bad : Bool) (vk vr vs : Value) (a : Option Addr) (n c : Nat) (l : List UInt8) (h : SIn ρ ZM a n l) (hc : n ≤ c) (st : Int) :
  Spec Tryz.prog 301 [.pointer (some ⟨bt, 0, none⟩)] ρ [tkC bt br all bad vk vr vs, rdC br a n c st]
   (fun v ρ' L' => v = .agg ⟨Xs (Xy l st bad).1⟩ ∧ ρ.le ρ' ∧ ∃ a' n' c', SIn ρ' ZM a' n' (Xy l st bad).2.1 ∧ n' ≤ c' ∧ L' = [tkC bt br all (Xy l st bad).2.2.2 vk vr vs, rdC br a' n' c' (Xy l st bad).2.2.1]) := by
 refine (tkid_spec ρ bt br all bad vk vr vs a n c l h hc st).mono ?_
 rintro v ρ' L' hle ⟨h1, h2, h3⟩
 exact ⟨h1, hle, h3⟩
theorem manyKid_spec (ρ : Hp) (bt br : Nat) (all : Int) (bad : Bool) (vk vr vs : Value) (a : Option Addr) (n c : Nat) (l : List UInt8) (h : SIn ρ ZM a n l) (hc : n ≤ c) (st : Int) :
  Spec Tryz.prog 300 [.pointer (some ⟨bt, 0, none⟩), .int .i64 4, .func (.func 301) ⟨[.pointer (some ⟨bt, 0, none⟩)]⟩ ⟨[]⟩] ρ [tkC bt br all bad vk vr vs, rdC br a n c st]
   (fun v ρ' L' => ρ.le ρ' ∧ ∃ sa sn sc a' n' c', v = .slice sa sn sc ∧ sn ≤ sc ∧ sn ≤ 255 ∧ AIn ρ' 3 Xs sa sn (YW Xy l st bad).1 ∧ SIn ρ' ZM a' n' (YW Xy l st bad).2.1 ∧ n' ≤ c' ∧ L' = [tkC bt br all (YW Xy l st bad).2.2.2 vk vr vs, rdC br a' n' c' (YW Xy l st bad).2.2.1]) := by
 have hn1 := u8_spec ρ br a n c l h hc st
 have hb1 := Wc 1 l st
 generalize hq : YW Xy l st bad = q
 unfold YW at hq
 generalize Yk 1 l st = r1 at *
 obtain ⟨x1, l1, st1⟩ := r1
 dsimp only at hq hn1 hb1
 have hb255 : x1 < 256 := by simpa using hb1
 generalize hB1 : Xi bad st1 (decide ((x1 : Int) ≤ 4)) = b1 at *
 refine Zf Tryz.func300 rfl rfl rfl fun u R => ?_
 simp only [Zx, List.cons_append, List.nil_append]
 repeat' (first | (refine Zc (.func 80) ?_; refine qC rfl rfl (hn1) ?_; rintro v ρ' L' hle ⟨rfl, rfl, a1, n1, c1, h1, hc1, rfl⟩ <;> (try simp only [kM, kN, kO])) | (refine Zc (.func 276) ?_; refine qC rfl rfl (Xd _ bt br all bad vk vr vs a1 n1 c1 st1 (decide ((x1 : Int) ≤ 4))) ?_; rintro v ρ' L' hle ⟨rfl, rfl, rfl⟩ <;> (try simp only [kM, kN, kO, hB1])) | (refine Zj ?_; first | (refine Zg ?_; refine qQ ?_) | refine Zl ?_) | refine Za ?_ | (refine Zi ?_; refine Zq ?_) | (refine Zh ?_; refine Zp ?_) | intro _)
 refine Zy [(0, _), (2, _), (6, _), (7, _)] (fun (ζ : (Nat) × (Hp) × (Value) × (List Value) × (List Kid) × (Option Addr) × (Nat) × (Nat) × (List UInt8) × (Int) × (Bool)) => [(9, .int .i64 ζ.1), (8, ζ.2.2.1)]) (fun (ζ : (Nat) × (Hp) × (Value) × (List Value) × (List Kid) × (Option Addr) × (Nat) × (Nat) × (List UInt8) × (Int) × (Bool)) => ζ.2.1) (fun (ζ : (Nat) × (Hp) × (Value) × (List Value) × (List Kid) × (Option Addr) × (Nat) × (Nat) × (List UInt8) × (Int) × (Bool)) => [Yu ζ.2.2.1 ((ζ.2.2.2.2.1.map Xs).flatten) ζ.2.2.2.1 224, tkC bt br all ζ.2.2.2.2.2.2.2.2.2.2 vk vr vs, rdC br ζ.2.2.2.2.2.1 ζ.2.2.2.2.2.2.1 ζ.2.2.2.2.2.2.2.1 ζ.2.2.2.2.2.2.2.2.2.1]) (fun (ζ : (Nat) × (Hp) × (Value) × (List Value) × (List Kid) × (Option Addr) × (Nat) × (Nat) × (List UInt8) × (Int) × (Bool)) => ζ.1 ≤ x1 ∧ ρ'.le ζ.2.1 ∧ OwnS ζ.2.2.1 ζ.1 ((ζ.2.2.2.2.1.map Xs).flatten) ζ.2.2.2.1 3 ∧ ζ.2.2.2.2.1.length = ζ.1 ∧ SIn ζ.2.1 ZM ζ.2.2.2.2.2.1 ζ.2.2.2.2.2.2.1 ζ.2.2.2.2.2.2.2.2.1 ∧ ζ.2.2.2.2.2.2.1 ≤ ζ.2.2.2.2.2.2.2.1 ∧ q = (ζ.2.2.2.2.1 ++ (Xp Xy (x1 - ζ.1) ζ.2.2.2.2.2.2.2.2.1 ζ.2.2.2.2.2.2.2.2.2.1 ζ.2.2.2.2.2.2.2.2.2.2).1, (Xp Xy (x1 - ζ.1) ζ.2.2.2.2.2.2.2.2.1 ζ.2.2.2.2.2.2.2.2.2.1 ζ.2.2.2.2.2.2.2.2.2.2).2)) (fun (ζ : (Nat) × (Hp) × (Value) × (List Value) × (List Kid) × (Option Addr) × (Nat) × (Nat) × (List UInt8) × (Int) × (Bool)) => x1 - ζ.1) ((0, ρ', .slice none 0 0, [], [], a1, n1, c1, l1, st1, b1)) (⟨Nat.zero_le _, Hp.le_refl _, OwnS.nil 3, rfl, h1, hc1, by simp [hq]⟩) Zk Zk rfl tk ?_
 rintro ⟨i, ρ1, v, sp, acc, a2, n2, c2, l2, st2, bad2⟩ hI
 try simp only [List.cons_append, List.nil_append, List.append_assoc, List.append_eq] at hI ⊢
 try dsimp only at hI ⊢
 obtain ⟨hi, hle1, hown, hal, h2, hc2, hq2⟩ := hI
 obtain ⟨va, vc, rfl, _⟩ := hown.len
 have hg : ∀ x ∈ acc, (Xs x).length = 3 := fun x _ => kidV_len x
 by_cases hlt : i < x1
 ·cases hok : (!bad2 && decide (st2 = 0))
  ·rw [manyTo_stop hok] at hq2
   simp only [List.append_nil] at hq2
   subst hq2
   repeat' (first | (refine Zc (.func 279) ?_; refine qC rfl rfl (ok_spec _ bt br all bad2 vk vr vs a2 n2 c2 st2) ?_; rintro v ρ' L' hle ⟨rfl, rfl, rfl⟩ <;> (try simp only [kM, kN, kO, hok])) | (refine Zj ?_; first | (refine Zg ?_; refine qQ ?_) | refine Zl ?_) | refine Za ?_ | (refine Zi ?_; refine Zq ?_) | (refine Zh ?_; refine Zp ?_) | intro _)
   refine YB (Yu (.slice va i vc) ((acc.map Xs).flatten) sp 224) (fun ρ3 hle3 hfz => ?_)
   obtain ⟨sa, sc, e1, hsc, hA⟩ := hown.aIn hal hg hfz
   cases e1
   exact qE ⟨Hp.le_trans hle1 hle3, _, _, _, a2, n2, c2, rfl, hsc, by omega, hA, h2.mono hle3, hc2, rfl⟩
  ·rw [show x1 - i = (x1 - (i + 1)) + 1 by omega, Xp, if_pos hok] at hq2
   have hrow := fun ρ h => tkidB_spec ρ bt br all bad2 vk vr vs a2 n2 c2 l2 h hc2 st2
   generalize Xy l2 st2 bad2 = r at *
   obtain ⟨x, l3, st3, bad3⟩ := r
   dsimp only at hq2 hrow
   repeat' (first | (refine Zc (.func 279) ?_; refine qC rfl rfl (ok_spec _ bt br all bad2 vk vr vs a2 n2 c2 st2) ?_; rintro v ρ' L' hle ⟨rfl, rfl, rfl⟩ <;> (try simp only [kM, kN, kO, hok])) | (refine Zc (.tmp 31) ?_; refine qC rfl rfl (hrow _ h2) ?_; rintro v ρ' L' hle ⟨rfl, hle3, a3, n3, c3, h3, hc3, rfl⟩ <;> (try simp only [kM, kN, kO])) | (refine Zj ?_; first | (refine Zg ?_; refine qQ ?_) | refine Zl ?_) | refine Za ?_ | (refine Zi ?_; refine Zq ?_) | (refine Zh ?_; refine Zp ?_) | intro _)
   refine ZE (css := [Xs x]) (sz := 3) rfl rfl rfl rfl (by simp) (by simp) rfl (fun bs => ?_)
   simp only [List.flatten_cons, List.flatten_nil, List.append_nil]
   refine Yt (ys := Xs x) (m := 1) rfl rfl hown (hR := by infer_instance) (SrcV.lit) rfl rfl (by decide) rfl (by omega) (by omega) rfl (fun v' sp' hown' => ?_)
   have hm : (acc.map Xs).flatten ++ Xs x = ((acc ++ [x]).map Xs).flatten := by simp
   rw [hm] at hown' ⊢
   repeat' (first | (refine Zj ?_; first | (refine Zg ?_; refine qQ ?_) | refine Zl ?_) | refine Za ?_ | (refine Zi ?_; refine Zq ?_) | (refine Zh ?_; refine Zp ?_) | intro _)
   refine Zo (i + 1, _, v', sp', acc ++ [x], a3, n3, c3, l3, st3, bad3) (⟨hlt, Hp.le_trans hle1 hle3, hown', by simp [hal], h3, hc3, by rw [hq2]; simp⟩) Zk Zk rfl tk inferInstance (by first | omega | (dsimp only; omega))
 ·have hi2 : i = x1 := by omega
  subst hi2
  rw [Nat.sub_self, Xp] at hq2
  simp only [List.append_nil] at hq2
  subst hq2
  repeat' (first | (refine Zj ?_; first | (refine Zg ?_; refine qQ ?_) | refine Zl ?_) | refine Za ?_ | (refine Zi ?_; refine Zq ?_) | (refine Zh ?_; refine Zp ?_) | intro _)
  refine YB (Yu (.slice va i vc) ((acc.map Xs).flatten) sp 224) (fun ρ3 hle3 hfz => ?_)
  obtain ⟨sa, sc, e1, hsc, hA⟩ := hown.aIn hal hg hfz
  cases e1
  exact qE ⟨Hp.le_trans hle1 hle3, _, _, _, a2, n2, c2, rfl, hsc, by omega, hA, h2.mono hle3, hc2, rfl⟩
theorem tleaf_spec (ρ : Hp) (bt br : Nat) (all : Int) (bad : Bool) (vk vr vs : Value) (h1 : vk.oneCell' = true) (h2 : vr.oneCell' = true) (h3 : vs.oneCell' = true) (a : Option Addr) (n c : Nat) (l : List UInt8) (h : SIn ρ ZM a n l) (hc : n ≤ c) (st : Int) :
  Spec Tryz.prog 277 [.pointer (some ⟨bt, 0, none⟩)] ρ [tkC bt br all bad vk vr vs, rdC br a n c st]
   (fun v ρ' L' => v = .tuple ⟨[]⟩ ∧ ρ.le ρ' ∧ ∃ sa sn sc a' n' c', sn ≤ sc ∧ sn ≤ 255 ∧ AIn ρ' 4 YY sa sn (YW XL l st bad).1 ∧ SIn ρ' ZM a' n' (YW XL l st bad).2.1 ∧ n' ≤ c' ∧ L' = [tkC bt br all (YW XL l st bad).2.2.2 vk (.slice sa sn sc) vs, rdC br a' n' c' (YW XL l st bad).2.2.1]) := by
 have hm := manyRow_spec ρ bt br all bad vk vr vs a n c l h hc st
 refine Zf Tryz.func277 rfl rfl rfl fun u R => ?_
 simp only [Zx, List.cons_append, List.nil_append]
 repeat' (first | (refine Zc (.func 299) ?_; refine qC rfl rfl (hm) ?_; rintro v ρ' L' hle ⟨hle1, sa, sn, sc, a', n', c', rfl, q1, q2, q3, q4, q5, rfl⟩ <;> (try simp only [kM, kN, kO])) | (refine Zj ?_; first | (refine Zg ?_; refine qQ ?_) | refine Zl ?_) | refine Za ?_ | (refine Zi ?_; refine Zq ?_) | (refine Zh ?_; refine Zp ?_) | intro _)
 exact qE ⟨rfl, hle1, sa, sn, sc, a', n', c', q1, q2, q3, q4, q5, rfl⟩
theorem tinner_spec (ρ : Hp) (bt br : Nat) (all : Int) (bad : Bool) (vk vr vs : Value) (h1 : vk.oneCell' = true) (h2 : vr.oneCell' = true) (h3 : vs.oneCell' = true) (a : Option Addr) (n c : Nat) (l : List UInt8) (h : SIn ρ ZM a n l) (hc : n ≤ c) (st : Int) :
  Spec Tryz.prog 278 [.pointer (some ⟨bt, 0, none⟩)] ρ [tkC bt br all bad vk vr vs, rdC br a n c st]
   (fun v ρ' L' => v = .tuple ⟨[]⟩ ∧ ρ.le ρ' ∧ ∃ sa sn sc a' n' c', sn ≤ sc ∧ sn ≤ 255 ∧ AIn ρ' 3 Xs sa sn (YW Xy l st bad).1 ∧ SIn ρ' ZM a' n' (YW Xy l st bad).2.1 ∧ n' ≤ c' ∧ L' = [tkC bt br all (YW Xy l st bad).2.2.2 vk vr (.slice sa sn sc), rdC br a' n' c' (YW Xy l st bad).2.2.1]) := by
 have hm := manyKid_spec ρ bt br all bad vk vr vs a n c l h hc st
 refine Zf Tryz.func278 rfl rfl rfl fun u R => ?_
 simp only [Zx, List.cons_append, List.nil_append]
 repeat' (first | (refine Zc (.func 300) ?_; refine qC rfl rfl (hm) ?_; rintro v ρ' L' hle ⟨hle1, sa, sn, sc, a', n', c', rfl, q1, q2, q3, q4, q5, rfl⟩ <;> (try simp only [kM, kN, kO])) | (refine Zj ?_; first | (refine Zg ?_; refine qQ ?_) | refine Zl ?_) | refine Za ?_ | (refine Zi ?_; refine Zq ?_) | (refine Zh ?_; refine Zp ?_) | intro _)
 exact qE ⟨rfl, hle1, sa, sn, sc, a', n', c', q1, q2, q3, q4, q5, rfl⟩
theorem from_spec (ρ : Hp) (a : Option Addr) (n c : Nat) (l : List UInt8) (h : SIn ρ ZM a n l) (hn : n ≤ 1000000) :
  Spec Tryz.prog 237 [.slice a n c] ρ [] (fun v ρ' L' => ρ.le ρ' ∧ ∃ bt br a' c', v = .pointer (some ⟨bt, 0, none⟩) ∧ n ≤ c' ∧ SIn ρ' ZM a' n l ∧ L' = [tkC bt br n false (.int .i64 0) (.slice none 0 0) (.slice none 0 0), rdC br a' n c' 0]) := by
 have hr := read_spec ρ a n c l h hn
 refine Zf Tryz.func237 rfl rfl rfl fun u R => ?_
 simp only [Zx, List.cons_append, List.nil_append]
 repeat' (first | (refine Zc (.func 79) ?_; refine qC rfl rfl (hr) ?_; rintro v ρ' L' hle ⟨hle, br, a', c', rfl, hc', hs, rfl⟩ <;> (try simp only [kM, kN, kO])) | (refine Zj ?_; first | (refine Zg ?_; refine qQ ?_) | refine Zl ?_) | refine Za ?_ | (refine Zi ?_; refine Zq ?_) | (refine Zh ?_; refine Zp ?_) | intro _)
 exact qE ⟨hle, _, br, a', c', rfl, hc', hs, rfl⟩
def Ww (all : Int) (left : Nat) (bad : Bool) (st : Int) : Int := if bad then 0 else if st ≠ 0 then 0 else all - left
def XD (bad : Bool) (st : Int) : Int := if bad then 161 else st
theorem takenRow_spec (ρ : Hp) (bt br : Nat) (all : Nat) (hall : all ≤ 1000000) (bad : Bool) (vk vr vs : Value) (a : Option Addr) (n c : Nat) (st : Int) (r : Row) (hn : n ≤ all) :
  Spec Tryz.prog 240 [.pointer (some ⟨bt, 0, none⟩), .agg ⟨YY r⟩] ρ [tkC bt br all bad vk vr vs, rdC br a n c st]
   (fun v ρ' L' => v = .tuple ⟨[.agg ⟨YY (if bad || decide (st ≠ 0) then ⟨0, 0, 0, []⟩ else r)⟩, .int .i64 (Ww all n bad st), .int .i64 (XD bad st)]⟩ ∧ ρ' = ρ ∧ L' = []) := by
 refine Zf Tryz.func240 rfl rfl rfl fun u R => ?_
 simp only [Zx, List.cons_append, List.nil_append, Ww, XD]
 cases bad
 ·by_cases h : st = 0
  ·subst h
   simp only [Bool.false_or, ne_eq, not_true_eq_false, decide_false, Bool.false_eq_true, if_false]
   repeat' (first | (refine Zc (.func 174) ?_; refine qC rfl rfl (Xm _ br a n c 0) ?_; rintro v ρ' L' hle ⟨rfl, rfl, rfl⟩ <;> (try simp only [kM, kN, kO])) | (refine Zj ?_; first | (refine Zg ?_; refine qQ ?_) | refine Zl ?_) | refine Za ?_ | (refine Zi ?_; refine Zq ?_) | (refine Zh ?_; refine Zp ?_) | intro _)
   rename_i b3 b4 b7
   refine ZI (Zv _ _ ([tkC bt br all false vk vr vs, [(b3, .cells ⟨YY r⟩ 101 (0, 0))]])) (ZU (hT := tk) (Hp.le_refl _)) ?_
   all_goals (refine Yr 0 ?_; refine Ye 1 ?_; refine rNc 2 ?_; refine rFa 3 ?_; refine Yr 4 ?_; refine Ye 5 ?_; refine rNc 6 ?_; refine rFa 7 ?_; refine Yr 8 ?_)
   all_goals (refine Zt (i := 9) ?_; ((try refine Zr ?_); (first | (refine Zc (.func 89) ?_; refine qC rfl rfl (Xq _ br a n c 0) ?_; rintro v ρ' L' hle ⟨rfl, rfl, rfl⟩ <;> (try simp only [kM, kN, kO])) | (refine Zl ?_; try intro _)) <;> ((try simp only [kM, kN, kO]); refine Za ?_; refine Zs ?_)))
   all_goals refine rSb 10 ?_
   all_goals (refine Zt (i := 11) ?_; ((try refine Zr ?_); (first | (refine Zl ?_; try intro _)) <;> ((try simp only [kM, kN, kO]); refine Za ?_; refine Zs ?_)))
   all_goals (refine Yi ?_; refine rAs 12 ?_; refine rAs 13 ?_; refine ZP ?_)
   repeat' (first | (refine Zj ?_; first | (refine Zg ?_; refine qQ ?_) | refine Zl ?_) | refine Za ?_ | (refine Zi ?_; refine Zq ?_) | (refine Zh ?_; refine Zp ?_) | intro _)
   exact qE ⟨rfl, rfl, rfl⟩
  ·simp only [Bool.false_or, ne_eq, h, not_false_eq_true, decide_true, if_true, Bool.false_eq_true, if_false]
   repeat' (first | (refine Zc (.func 174) ?_; refine qC rfl rfl (Xm _ br a n c st) ?_; rintro v ρ' L' hle ⟨rfl, rfl, rfl⟩ <;> (try simp only [kM, kN, kO])) | (refine Zj ?_; first | (refine Zg ?_; refine qQ ?_) | refine Zl ?_) | refine Za ?_ | (refine Zi ?_; refine Zq ?_) | (refine Zh ?_; refine Zp ?_) | intro _)
   rename_i b3 b4 b7
   refine ZI (Zv _ _ ([tkC bt br all false vk vr vs, [(b7, .cells ⟨YY ⟨0, 0, 0, []⟩⟩ 101 (0, 0))]])) (ZU (hT := tk) (Hp.le_refl _)) ?_
   all_goals (refine Yr 0 ?_; refine Ye 1 ?_; refine rNc 2 ?_; refine rFa 3 ?_; refine Yr 4 ?_)
   all_goals (refine Zt (i := 5) ?_; ((try refine Zr ?_); (first | (refine Zc (.func 174) ?_; refine qC rfl rfl (Xm _ br a n c st) ?_; rintro v ρ' L' hle ⟨rfl, rfl, rfl⟩ <;> (try simp only [kM, kN, kO])) | (refine Zl ?_; try intro _)) <;> ((try simp only [kM, kN, kO]); refine Za ?_; refine Zs ?_)))
   all_goals (refine Zt (i := 6) ?_; ((try refine Zr ?_); (first | (refine Zl ?_; try intro _)) <;> ((try simp only [kM, kN, kO]); refine Za ?_; refine Zs ?_)))
   all_goals (refine Yi ?_; refine rAs 7 ?_; refine rAs 8 ?_; refine ZP ?_)
   repeat' (first | (refine Zj ?_; first | (refine Zg ?_; refine qQ ?_) | refine Zl ?_) | refine Za ?_ | (refine Zi ?_; refine Zq ?_) | (refine Zh ?_; refine Zp ?_) | intro _)
   exact qE ⟨rfl, rfl, rfl⟩
 ·simp only [Bool.true_or, if_true]
  repeat' (first | (refine Zj ?_; first | (refine Zg ?_; refine qQ ?_) | refine Zl ?_) | refine Za ?_ | (refine Zi ?_; refine Zq ?_) | (refine Zh ?_; refine Zp ?_) | intro _)
  exact qE ⟨rfl, rfl, rfl⟩
theorem takenCont_spec (ρ : Hp) (bt br : Nat) (all : Nat) (hall : all ≤ 1000000) (bad : Bool) (vk vr vs : Value) (a : Option Addr) (n c : Nat) (st : Int) (k : Int) (w : CV) (hn : n ≤ all) :
  Spec Tryz.prog 238 [.pointer (some ⟨bt, 0, none⟩), .agg ⟨XJ k w⟩] ρ [tkC bt br all bad vk vr vs, rdC br a n c st]
   (fun v ρ' L' => v = .tuple ⟨[.agg ⟨if bad || decide (st ≠ 0) then XJ 0 ⟨none, 0, 0, none, 0, 0⟩ else XJ k w⟩, .int .i64 (Ww all n bad st), .int .i64 (XD bad st)]⟩ ∧ ρ' = ρ ∧ L' = []) := by
 refine Zf Tryz.func238 rfl rfl rfl fun u R => ?_
 simp only [Zx, List.cons_append, List.nil_append, Ww, XD]
 cases bad
 ·by_cases h : st = 0
  ·subst h
   simp only [Bool.false_or, ne_eq, not_true_eq_false, decide_false, Bool.false_eq_true, if_false]
   repeat' (first | (refine Zc (.func 174) ?_; refine qC rfl rfl (Xm _ br a n c 0) ?_; rintro v ρ' L' hle ⟨rfl, rfl, rfl⟩ <;> (try simp only [kM, kN, kO])) | (refine Zj ?_; first | (refine Zg ?_; refine qQ ?_) | refine Zl ?_) | refine Za ?_ | (refine Zi ?_; refine Zq ?_) | (refine Zh ?_; refine Zp ?_) | intro _)
   rename_i b3 b4 b7
   refine ZI (Zv _ _ ([tkC bt br all false vk vr vs, [(b3, .cells ⟨XJ k w⟩ 110 (0, 0))]])) (ZU (hT := tk) (Hp.le_refl _)) ?_
   all_goals (refine Yr 0 ?_; refine Ye 1 ?_; refine rNc 2 ?_; refine rFa 3 ?_; refine Yr 4 ?_; refine Ye 5 ?_; refine rNc 6 ?_; refine rFa 7 ?_; refine Yr 8 ?_)
   all_goals (refine Zt (i := 9) ?_; ((try refine Zr ?_); (first | (refine Zc (.func 89) ?_; refine qC rfl rfl (Xq _ br a n c 0) ?_; rintro v ρ' L' hle ⟨rfl, rfl, rfl⟩ <;> (try simp only [kM, kN, kO])) | (refine Zl ?_; try intro _)) <;> ((try simp only [kM, kN, kO]); refine Za ?_; refine Zs ?_)))
   all_goals refine rSb 10 ?_
   all_goals (refine Zt (i := 11) ?_; ((try refine Zr ?_); (first | (refine Zl ?_; try intro _)) <;> ((try simp only [kM, kN, kO]); refine Za ?_; refine Zs ?_)))
   all_goals (refine Yi ?_; refine rAs 12 ?_; refine rAs 13 ?_; refine ZP ?_)
   repeat' (first | (refine Zj ?_; first | (refine Zg ?_; refine qQ ?_) | refine Zl ?_) | refine Za ?_ | (refine Zi ?_; refine Zq ?_) | (refine Zh ?_; refine Zp ?_) | intro _)
   exact qE ⟨rfl, rfl, rfl⟩
  ·simp only [Bool.false_or, ne_eq, h, not_false_eq_true, decide_true, if_true, Bool.false_eq_true, if_false]
   repeat' (first | (refine Zc (.func 174) ?_; refine qC rfl rfl (Xm _ br a n c st) ?_; rintro v ρ' L' hle ⟨rfl, rfl, rfl⟩ <;> (try simp only [kM, kN, kO])) | (refine Zj ?_; first | (refine Zg ?_; refine qQ ?_) | refine Zl ?_) | refine Za ?_ | (refine Zi ?_; refine Zq ?_) | (refine Zh ?_; refine Zp ?_) | intro _)
   rename_i b3 b4 b7
   refine ZI (Zv _ _ ([tkC bt br all false vk vr vs, [(b7, .cells ⟨XJ 0 ⟨none, 0, 0, none, 0, 0⟩⟩ 110 (0, 0))]])) (ZU (hT := tk) (Hp.le_refl _)) ?_
   all_goals (refine Yr 0 ?_; refine Ye 1 ?_; refine rNc 2 ?_; refine rFa 3 ?_; refine Yr 4 ?_)
   all_goals (refine Zt (i := 5) ?_; ((try refine Zr ?_); (first | (refine Zc (.func 174) ?_; refine qC rfl rfl (Xm _ br a n c st) ?_; rintro v ρ' L' hle ⟨rfl, rfl, rfl⟩ <;> (try simp only [kM, kN, kO])) | (refine Zl ?_; try intro _)) <;> ((try simp only [kM, kN, kO]); refine Za ?_; refine Zs ?_)))
   all_goals (refine Zt (i := 6) ?_; ((try refine Zr ?_); (first | (refine Zl ?_; try intro _)) <;> ((try simp only [kM, kN, kO]); refine Za ?_; refine Zs ?_)))
   all_goals (refine Yi ?_; refine rAs 7 ?_; refine rAs 8 ?_; refine ZP ?_)
   repeat' (first | (refine Zj ?_; first | (refine Zg ?_; refine qQ ?_) | refine Zl ?_) | refine Za ?_ | (refine Zi ?_; refine Zq ?_) | (refine Zh ?_; refine Zp ?_) | intro _)
   exact qE ⟨rfl, rfl, rfl⟩
 ·simp only [Bool.true_or, if_true]
  repeat' (first | (refine Zj ?_; first | (refine Zg ?_; refine qQ ?_) | refine Zl ?_) | refine Za ?_ | (refine Zi ?_; refine Zq ?_) | (refine Zh ?_; refine Zp ?_) | intro _)
  exact qE ⟨rfl, rfl, rfl⟩
def WD (x1 : Nat) (l1 : List UInt8) (st1 : Int) (b1 : Bool) : (List Row × List Kid) × Yo :=
 if !b1 && decide (st1 = 0) then
  if x1 = 1 then (((YW XL l1 st1 b1).1, []), (YW XL l1 st1 b1).2)
  else if x1 = 2 then (([], (YW Xy l1 st1 b1).1), (YW Xy l1 st1 b1).2)
  else (([], []), l1, st1, b1)
 else (([], []), l1, st1, b1)
def contE (x1 : Nat) (m : (List Row × List Kid) × Yo) : XQ × Yo := (⟨x1, m.1.1, m.1.2⟩, m.2.1, m.2.2.1, Xi m.2.2.2 m.2.2.1 (ZQ ⟨x1, m.1.1, m.1.2⟩))
def YK (l : List UInt8) : XQ × Yo :=
 contE (Yk 1 l 0).1 (WD (Yk 1 l 0).1 (Yk 1 l 0).2.1 (Yk 1 l 0).2.2 (Xi false (Yk 1 l 0).2.2 (decide (((Yk 1 l 0).1 : Int) ≤ 2))))
theorem CIn.nil {ρ : Hp} : CIn ρ ⟨none, 0, 0, none, 0, 0⟩ [] [] := ⟨AIn.nil, AIn.nil, by decide, by decide, by decide, by decide⟩
theorem content_spec (ρ : Hp) (bt br : Nat) (all : Int) (a : Option Addr) (n c : Nat) (l : List UInt8) (h : SIn ρ ZM a n l) (hc : n ≤ c) :
  Spec Tryz.prog 239 [.pointer (some ⟨bt, 0, none⟩)] ρ [tkC bt br all false (.int .i64 0) (.slice none 0 0) (.slice none 0 0), rdC br a n c 0]
   (fun v ρ' L' => ρ.le ρ' ∧ ∃ w a' n' c', v = .agg ⟨XJ (YK l).1.kind w⟩ ∧ CIn ρ' w (YK l).1.rows (YK l).1.kids ∧ SIn ρ' ZM a' n' (YK l).2.1 ∧ n' ≤ c' ∧
    L' = [tkC bt br all (YK l).2.2.2 (.int .i64 (YK l).1.kind) (.slice w.ra w.rn w.rc) (.slice w.ka w.kn w.kc), rdC br a' n' c' (YK l).2.2.1]) := by
 have hn1 := u8_spec ρ br a n c l h hc 0
 have hb1 := Wc 1 l 0
 generalize hq : YK l = q
 unfold YK at hq
 generalize Yk 1 l 0 = r1 at *
 obtain ⟨x1, l1, st1⟩ := r1
 dsimp only at hq hn1 hb1
 generalize hB1 : Xi false st1 (decide ((x1 : Int) ≤ 2)) = b1 at *
 have hnil : Xe .i64 [] := by intro e he; simp at he
 have hg0 : ∀ k : Int, Xo [] k = none := fun _ => rfl
 refine Zf Tryz.func239 rfl rfl rfl fun u R => ?_
 simp only [Zx, List.cons_append, List.nil_append]
 rcases (show (x1 : Int) = 1 ∨ (x1 : Int) = 2 ∨ (x1 : Int) = 0 ∨ (2 : Int) < (x1 : Int) by omega) with hx | hx | hx | hx
 ·rw [decide_eq_true (show (x1 : Int) ≤ 2 by omega)] at hB1
  repeat' (first | (refine Zc (.func 80) ?_; refine qC rfl rfl (hn1) ?_; rintro v ρ' L' hle ⟨rfl, rfl, a1, n1, c1, h1, hc1, rfl⟩ <;> (try simp only [kM, kN, kO])) | (refine Zc (.func 276) ?_; refine qC rfl rfl (Xd _ bt br all false _ _ _ a1 n1 c1 st1 _) ?_; rintro v ρ' L' hle ⟨rfl, rfl, rfl⟩ <;> (try simp only [kM, kN, kO, hB1])) | (refine Yh rfl rfl rfl hnil (fun es1 ck1 i1 i2 => ?_)) | (refine Yh rfl rfl rfl i1 (fun es2 ck2 j1 j2 => ?_); have hg := j2 (x1 : Int); rw [i2, if_neg (by omega), if_pos hx] at hg) | (refine Zj ?_; first | (refine Zg ?_; refine qQ ?_) | refine Zl ?_) | refine Za ?_ | (refine Zi ?_; refine Zq ?_) | (refine Zh ?_; refine Zp ?_) | intro _)
  cases hok : (!b1 && decide (st1 = 0))
  ·have hm : WD x1 l1 st1 b1 = (([], []), l1, st1, b1) := by rw [WD, hok]; rfl
   rw [hm] at hq
   have hck := fun ρ => XG ρ ⟨none, 0, 0, none, 0, 0⟩ ⟨x1, [], []⟩ CIn.nil
   simp only [contE] at hq
   generalize hB2 : Xi b1 st1 (ZQ ⟨x1, [], []⟩) = b2 at *
   subst hq
   repeat' (first | (refine Zc (.func 279) ?_; refine qC rfl rfl (ok_spec _ bt br all b1 _ _ _ a1 n1 c1 st1) ?_; rintro v ρ' L' hle ⟨rfl, rfl, rfl⟩ <;> (try simp only [kM, kN, kO, hok])) | (refine Zj ?_; first | (refine Zg ?_; refine qQ ?_) | refine Zl ?_) | refine Za ?_ | (refine Zi ?_; refine Zq ?_) | (refine Zh ?_; refine Zp ?_) | intro _)
   cases hco : ZQ ⟨x1, [], []⟩
   all_goals rw [hco] at hck hB2
   all_goals (repeat' (first | (refine Zc (.func 251) ?_; refine qC rfl rfl (hck _) ?_; rintro v ρ' L' hle ⟨rfl, rfl, rfl⟩ <;> (try simp only [kM, kN, kO, if_true, if_false, Bool.false_eq_true])) | (refine Zc (.func 276) ?_; refine qC rfl rfl (Xd _ bt br all b1 _ _ _ a1 n1 c1 st1 _) ?_; rintro v ρ' L' hle ⟨rfl, rfl, rfl⟩ <;> (try simp only [kM, kN, kO, hB2])) | (refine Zj ?_; first | (refine Zg ?_; refine qQ ?_) | refine Zl ?_) | refine Za ?_ | (refine Zi ?_; refine Zq ?_) | (refine Zh ?_; refine Zp ?_) | intro _))
   all_goals exact qE ⟨Hp.le_refl _, ⟨none, 0, 0, none, 0, 0⟩, a1, n1, c1, rfl, CIn.nil, h1, hc1, rfl⟩
  ·have hlf := fun ρ (h : SIn ρ ZM a1 n1 l1) => tleaf_spec ρ bt br all b1 (.int .i64 x1) (.slice none 0 0) (.slice none 0 0) rfl rfl rfl a1 n1 c1 l1 h hc1 st1
   have hm : WD x1 l1 st1 b1 = (((YW XL l1 st1 b1).1, []), (YW XL l1 st1 b1).2) := by rw [WD, if_pos hok, if_pos (by omega)]
   rw [hm] at hq
   generalize YW XL l1 st1 b1 = m at *
   obtain ⟨xs, l2, st2, b2⟩ := m
   dsimp only at hq hlf
   have hck := fun ρ w h => XG ρ w ⟨x1, xs, []⟩ h
   simp only [contE] at hq
   generalize hB2 : Xi b2 st2 (ZQ ⟨x1, xs, []⟩) = b3 at *
   subst hq
   repeat' (first | (refine Zc (.func 279) ?_; refine qC rfl rfl (ok_spec _ bt br all b1 _ _ _ a1 n1 c1 st1) ?_; rintro v ρ' L' hle ⟨rfl, rfl, rfl⟩ <;> (try simp only [kM, kN, kO, hok])) | (refine Zc (.tmp 40) ?_; refine qC rfl rfl (hlf _ h1) ?_; rintro v ρ' L' hle ⟨rfl, hle2, sa, sn, sc, a2, n2, c2, hsc, hs255, hA, h2, hc2, rfl⟩ <;> (try simp only [kM, kN, kO])) | (refine Zj ?_; first | (refine Zg ?_; refine qQ ?_) | refine Zl ?_) | refine Za ?_ | (refine Zi ?_; refine Zq ?_) | (refine Zh ?_; refine Zp ?_) | intro _)
   have hC : CIn ρ' ⟨sa, sn, sc, none, 0, 0⟩ xs [] := ⟨hA, AIn.nil, by dsimp only; omega, Nat.zero_le _, hsc, Nat.le_refl _⟩
   cases hco : ZQ ⟨x1, xs, []⟩
   all_goals rw [hco] at hck hB2
   all_goals (repeat' (first | (refine Zc (.func 251) ?_; refine qC rfl rfl (hck _ _ hC) ?_; rintro v ρ' L' hle ⟨rfl, rfl, rfl⟩ <;> (try simp only [kM, kN, kO, if_true, if_false, Bool.false_eq_true])) | (refine Zc (.func 276) ?_; refine qC rfl rfl (Xd _ bt br all b2 _ _ _ a2 n2 c2 st2 _) ?_; rintro v ρ' L' hle ⟨rfl, rfl, rfl⟩ <;> (try simp only [kM, kN, kO, hB2])) | (refine Zj ?_; first | (refine Zg ?_; refine qQ ?_) | refine Zl ?_) | refine Za ?_ | (refine Zi ?_; refine Zq ?_) | (refine Zh ?_; refine Zp ?_) | intro _))
   all_goals exact qE ⟨hle2, ⟨sa, sn, sc, none, 0, 0⟩, a2, n2, c2, rfl, hC, h2, hc2, rfl⟩
 ·rw [decide_eq_true (show (x1 : Int) ≤ 2 by omega)] at hB1
  repeat' (first | (refine Zc (.func 80) ?_; refine qC rfl rfl (hn1) ?_; rintro v ρ' L' hle ⟨rfl, rfl, a1, n1, c1, h1, hc1, rfl⟩ <;> (try simp only [kM, kN, kO])) | (refine Zc (.func 276) ?_; refine qC rfl rfl (Xd _ bt br all false _ _ _ a1 n1 c1 st1 _) ?_; rintro v ρ' L' hle ⟨rfl, rfl, rfl⟩ <;> (try simp only [kM, kN, kO, hB1])) | (refine Yh rfl rfl rfl hnil (fun es1 ck1 i1 i2 => ?_)) | (refine Yh rfl rfl rfl i1 (fun es2 ck2 j1 j2 => ?_); have hg := j2 (x1 : Int); rw [if_pos hx] at hg) | (refine Zj ?_; first | (refine Zg ?_; refine qQ ?_) | refine Zl ?_) | refine Za ?_ | (refine Zi ?_; refine Zq ?_) | (refine Zh ?_; refine Zp ?_) | intro _)
  cases hok : (!b1 && decide (st1 = 0))
  ·have hm : WD x1 l1 st1 b1 = (([], []), l1, st1, b1) := by rw [WD, hok]; rfl
   rw [hm] at hq
   have hck := fun ρ => XG ρ ⟨none, 0, 0, none, 0, 0⟩ ⟨x1, [], []⟩ CIn.nil
   simp only [contE] at hq
   generalize hB2 : Xi b1 st1 (ZQ ⟨x1, [], []⟩) = b2 at *
   subst hq
   repeat' (first | (refine Zc (.func 279) ?_; refine qC rfl rfl (ok_spec _ bt br all b1 _ _ _ a1 n1 c1 st1) ?_; rintro v ρ' L' hle ⟨rfl, rfl, rfl⟩ <;> (try simp only [kM, kN, kO, hok])) | (refine Zj ?_; first | (refine Zg ?_; refine qQ ?_) | refine Zl ?_) | refine Za ?_ | (refine Zi ?_; refine Zq ?_) | (refine Zh ?_; refine Zp ?_) | intro _)
   cases hco : ZQ ⟨x1, [], []⟩
   all_goals rw [hco] at hck hB2
   all_goals (repeat' (first | (refine Zc (.func 251) ?_; refine qC rfl rfl (hck _) ?_; rintro v ρ' L' hle ⟨rfl, rfl, rfl⟩ <;> (try simp only [kM, kN, kO, if_true, if_false, Bool.false_eq_true])) | (refine Zc (.func 276) ?_; refine qC rfl rfl (Xd _ bt br all b1 _ _ _ a1 n1 c1 st1 _) ?_; rintro v ρ' L' hle ⟨rfl, rfl, rfl⟩ <;> (try simp only [kM, kN, kO, hB2])) | (refine Zj ?_; first | (refine Zg ?_; refine qQ ?_) | refine Zl ?_) | refine Za ?_ | (refine Zi ?_; refine Zq ?_) | (refine Zh ?_; refine Zp ?_) | intro _))
   all_goals exact qE ⟨Hp.le_refl _, ⟨none, 0, 0, none, 0, 0⟩, a1, n1, c1, rfl, CIn.nil, h1, hc1, rfl⟩
  ·have hlf := fun ρ (h : SIn ρ ZM a1 n1 l1) => tinner_spec ρ bt br all b1 (.int .i64 x1) (.slice none 0 0) (.slice none 0 0) rfl rfl rfl a1 n1 c1 l1 h hc1 st1
   have hm : WD x1 l1 st1 b1 = (([], (YW Xy l1 st1 b1).1), (YW Xy l1 st1 b1).2) := by rw [WD, if_pos hok, if_neg (by omega), if_pos (by omega)]
   rw [hm] at hq
   generalize YW Xy l1 st1 b1 = m at *
   obtain ⟨xs, l2, st2, b2⟩ := m
   dsimp only at hq hlf
   have hck := fun ρ w h => XG ρ w ⟨x1, [], xs⟩ h
   simp only [contE] at hq
   generalize hB2 : Xi b2 st2 (ZQ ⟨x1, [], xs⟩) = b3 at *
   subst hq
   repeat' (first | (refine Zc (.func 279) ?_; refine qC rfl rfl (ok_spec _ bt br all b1 _ _ _ a1 n1 c1 st1) ?_; rintro v ρ' L' hle ⟨rfl, rfl, rfl⟩ <;> (try simp only [kM, kN, kO, hok])) | (refine Zc (.tmp 40) ?_; refine qC rfl rfl (hlf _ h1) ?_; rintro v ρ' L' hle ⟨rfl, hle2, sa, sn, sc, a2, n2, c2, hsc, hs255, hA, h2, hc2, rfl⟩ <;> (try simp only [kM, kN, kO])) | (refine Zj ?_; first | (refine Zg ?_; refine qQ ?_) | refine Zl ?_) | refine Za ?_ | (refine Zi ?_; refine Zq ?_) | (refine Zh ?_; refine Zp ?_) | intro _)
   have hC : CIn ρ' ⟨none, 0, 0, sa, sn, sc⟩ [] xs := ⟨AIn.nil, hA, Nat.zero_le _, by dsimp only; omega, Nat.le_refl _, hsc⟩
   cases hco : ZQ ⟨x1, [], xs⟩
   all_goals rw [hco] at hck hB2
   all_goals (repeat' (first | (refine Zc (.func 251) ?_; refine qC rfl rfl (hck _ _ hC) ?_; rintro v ρ' L' hle ⟨rfl, rfl, rfl⟩ <;> (try simp only [kM, kN, kO, if_true, if_false, Bool.false_eq_true])) | (refine Zc (.func 276) ?_; refine qC rfl rfl (Xd _ bt br all b2 _ _ _ a2 n2 c2 st2 _) ?_; rintro v ρ' L' hle ⟨rfl, rfl, rfl⟩ <;> (try simp only [kM, kN, kO, hB2])) | (refine Zj ?_; first | (refine Zg ?_; refine qQ ?_) | refine Zl ?_) | refine Za ?_ | (refine Zi ?_; refine Zq ?_) | (refine Zh ?_; refine Zp ?_) | intro _))
   all_goals exact qE ⟨hle2, ⟨none, 0, 0, sa, sn, sc⟩, a2, n2, c2, rfl, hC, h2, hc2, rfl⟩
 ·rw [decide_eq_true (show (x1 : Int) ≤ 2 by omega)] at hB1
  repeat' (first | (refine Zc (.func 80) ?_; refine qC rfl rfl (hn1) ?_; rintro v ρ' L' hle ⟨rfl, rfl, a1, n1, c1, h1, hc1, rfl⟩ <;> (try simp only [kM, kN, kO])) | (refine Zc (.func 276) ?_; refine qC rfl rfl (Xd _ bt br all false _ _ _ a1 n1 c1 st1 _) ?_; rintro v ρ' L' hle ⟨rfl, rfl, rfl⟩ <;> (try simp only [kM, kN, kO, hB1])) | (refine Yh rfl rfl rfl hnil (fun es1 ck1 i1 i2 => ?_)) | (refine Yh rfl rfl rfl i1 (fun es2 ck2 j1 j2 => ?_); have hg := j2 (x1 : Int); rw [i2, if_neg (by omega), if_neg (by omega), hg0] at hg) | (refine Zj ?_; first | (refine Zg ?_; refine qQ ?_) | refine Zl ?_) | refine Za ?_ | (refine Zi ?_; refine Zq ?_) | (refine Zh ?_; refine Zp ?_) | intro _)
  have hm : WD x1 l1 st1 b1 = (([], []), l1, st1, b1) := by
   rw [WD]
   split
   ·rw [if_neg (by omega), if_neg (by omega)]
   ·rfl
  rw [hm] at hq
  have hck := fun ρ => XG ρ ⟨none, 0, 0, none, 0, 0⟩ ⟨x1, [], []⟩ CIn.nil
  simp only [contE] at hq
  generalize hB2 : Xi b1 st1 (ZQ ⟨x1, [], []⟩) = b2 at *
  subst hq
  cases hco : ZQ ⟨x1, [], []⟩
  all_goals rw [hco] at hck hB2
  all_goals (repeat' (first | (refine Zc (.func 251) ?_; refine qC rfl rfl (hck _) ?_; rintro v ρ' L' hle ⟨rfl, rfl, rfl⟩ <;> (try simp only [kM, kN, kO, if_true, if_false, Bool.false_eq_true])) | (refine Zc (.func 276) ?_; refine qC rfl rfl (Xd _ bt br all b1 _ _ _ a1 n1 c1 st1 _) ?_; rintro v ρ' L' hle ⟨rfl, rfl, rfl⟩ <;> (try simp only [kM, kN, kO, hB2])) | (refine Zj ?_; first | (refine Zg ?_; refine qQ ?_) | refine Zl ?_) | refine Za ?_ | (refine Zi ?_; refine Zq ?_) | (refine Zh ?_; refine Zp ?_) | intro _))
  all_goals exact qE ⟨Hp.le_refl _, ⟨none, 0, 0, none, 0, 0⟩, a1, n1, c1, rfl, CIn.nil, h1, hc1, rfl⟩
 ·rw [decide_eq_false (show ¬ (x1 : Int) ≤ 2 by omega)] at hB1
  repeat' (first | (refine Zc (.func 80) ?_; refine qC rfl rfl (hn1) ?_; rintro v ρ' L' hle ⟨rfl, rfl, a1, n1, c1, h1, hc1, rfl⟩ <;> (try simp only [kM, kN, kO])) | (refine Zc (.func 276) ?_; refine qC rfl rfl (Xd _ bt br all false _ _ _ a1 n1 c1 st1 _) ?_; rintro v ρ' L' hle ⟨rfl, rfl, rfl⟩ <;> (try simp only [kM, kN, kO, hB1])) | (refine Yh rfl rfl rfl hnil (fun es1 ck1 i1 i2 => ?_)) | (refine Yh rfl rfl rfl i1 (fun es2 ck2 j1 j2 => ?_); have hg := j2 (x1 : Int); rw [i2, if_neg (by omega), if_neg (by omega), hg0] at hg) | (refine Zj ?_; first | (refine Zg ?_; refine qQ ?_) | refine Zl ?_) | refine Za ?_ | (refine Zi ?_; refine Zq ?_) | (refine Zh ?_; refine Zp ?_) | intro _)
  have hm : WD x1 l1 st1 b1 = (([], []), l1, st1, b1) := by
   rw [WD]
   split
   ·rw [if_neg (by omega), if_neg (by omega)]
   ·rfl
  rw [hm] at hq
  have hck := fun ρ => XG ρ ⟨none, 0, 0, none, 0, 0⟩ ⟨x1, [], []⟩ CIn.nil
  simp only [contE] at hq
  generalize hB2 : Xi b1 st1 (ZQ ⟨x1, [], []⟩) = b2 at *
  subst hq
  cases hco : ZQ ⟨x1, [], []⟩
  all_goals rw [hco] at hck hB2
  all_goals (repeat' (first | (refine Zc (.func 251) ?_; refine qC rfl rfl (hck _) ?_; rintro v ρ' L' hle ⟨rfl, rfl, rfl⟩ <;> (try simp only [kM, kN, kO, if_true, if_false, Bool.false_eq_true])) | (refine Zc (.func 276) ?_; refine qC rfl rfl (Xd _ bt br all b1 _ _ _ a1 n1 c1 st1 _) ?_; rintro v ρ' L' hle ⟨rfl, rfl, rfl⟩ <;> (try simp only [kM, kN, kO, hB2])) | (refine Zj ?_; first | (refine Zg ?_; refine qQ ?_) | refine Zl ?_) | refine Za ?_ | (refine Zi ?_; refine Zq ?_) | (refine Zh ?_; refine Zp ?_) | intro _))
  all_goals exact qE ⟨Hp.le_refl _, ⟨none, 0, 0, none, 0, 0⟩, a1, n1, c1, rfl, CIn.nil, h1, hc1, rfl⟩
end Go.Proofs.E
