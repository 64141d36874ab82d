/- The law PoolTells. Part 6 of 20. -/
import Derived.Test.YtobldeddiffjgaaGreatC5
namespace Go.Proofs.E
open Go
set_option linter.unusedVariables false
set_option linter.unusedSimpArgs false
set_option linter.unusedSectionVars false
set_option maxRecDepth 4000
set_option maxHeartbeats 1000000
attribute [local irreducible] Yl TL TC TE Spec XU R1 Hp.le EnvLe TS TR YS Zr
abbrev RS3 := List UInt8 × Int × Bool
def i64N (x : Nat) : Int := IntKind.i64.wrap (x : Int)
def WQ (l : List UInt8) (st : Int) (bad : Bool) : Row × RS3 :=
 let r1 := YF 1 l st
 let b1 := XP bad r1.2.2 (decide ((r1.1 : Int) < 3))
 if !b1 && decide (r1.2.2 = 0) then
  let r2 := YF 2 r1.2.1 r1.2.2
  let r3 := YF 8 r2.2.1 r2.2.2
  let r4 := YF 1 r3.2.1 r3.2.2
  let b2 := XP b1 r4.2.2 (decide ((r4.1 : Int) ≤ 8))
  if !b2 && decide (r4.2.2 = 0) then
   let r5 := rawR r4.1 r4.2.1 r4.2.2
   (⟨r1.1, r2.1, i64N r3.1, r5.1⟩, r5.2.1, r5.2.2, b2)
  else (⟨r1.1, r2.1, i64N r3.1, []⟩, r4.2.1, r4.2.2, b2)
 else (⟨r1.1, 0, 0, []⟩, r1.2.1, r1.2.2, b1)
theorem trow_spec (ρ : Hp) (bt br : Nat) (all : Int) (bad : Bool) (vk vr vs : Value) (a : Option Addr) (n c : Nat) (l : List UInt8) (h : SIn ρ ZD a n l) (hc : n ≤ c) (st : Int) :
  Spec Tryz.prog 207 [.pointer (some ⟨bt, 0, none⟩)] ρ [tkC bt br all bad vk vr vs, rdC br a n c st]
   (fun v ρ' L' => v = .agg ⟨YT (WQ l st bad).1⟩ ∧ ρ.le ρ' ∧ ∃ a' n' c', SIn ρ' ZD a' n' (WQ l st bad).2.1 ∧ n' ≤ c' ∧ L' = [tkC bt br all (WQ l st bad).2.2.2 vk vr vs, rdC br a' n' c' (WQ l st bad).2.2.1]) := by
 have hn1 := u8_spec ρ br a n c l h hc st
 have hb1 := Vu 1 l st
 generalize hq : WQ l st bad = q
 unfold WQ at hq
 generalize YF 1 l st = r1 at *
 obtain ⟨x1, l1, st1⟩ := r1
 dsimp only at hq hn1 hb1
 have htab : decide (0 ≤ (x1 : Int) ∧ (x1 : Int) < 3) = decide ((x1 : Int) < 3) := by simp
 generalize hB1 : XP bad st1 (decide ((x1 : Int) < 3)) = b1 at *
 refine Ze Tryz.func207 rfl rfl rfl fun u R => ?_
 simp only [Zt, List.cons_append, List.nil_append]
 repeat' (first | (refine Zc (.func 97) ?_; refine qC rfl rfl (hn1) ?_; rintro v ρ' L' hle ⟨rfl, rfl, a1, n1, c1, h1, hc1, rfl⟩ <;> (try simp only [kM, kN, kO])) | (refine Zc (.func 229) ?_; refine qC rfl rfl (WA _ (x1 : Int)) ?_; rintro v ρ' L' hle ⟨rfl, rfl, rfl⟩ <;> (try simp only [kM, kN, kO, htab])) | (refine Zc (.func 244) ?_; refine qC rfl rfl (Xz _ bt br all bad vk vr vs a1 n1 c1 st1 (decide ((x1 : Int) < 3))) ?_; rintro v ρ' L' hle ⟨rfl, rfl, rfl⟩ <;> (try simp only [kM, kN, kO, hB1])) | (refine Zc (.func 247) ?_; refine qC rfl rfl (ok_spec _ bt br all b1 vk vr vs a1 n1 c1 st1) ?_; rintro v ρ' L' hle ⟨rfl, rfl, rfl⟩ <;> (try simp only [kM, kN, kO])) | (refine Zg ?_; first | (refine Zf ?_; refine qQ ?_) | refine Zj ?_) | refine Za ?_ | (refine Zh ?_; refine Zu ?_) | (refine Zi ?_; refine Zv ?_) | intro _)
 by_cases hok : (!b1 && decide (st1 = 0)) = true
 ·rw [if_pos hok] at hq
  simp only [hok]
  have hn2 := fun ρ (h : SIn ρ ZD a1 n1 l1) => u16_spec ρ br a1 n1 c1 l1 h hc1 st1
  have hb2 := Vu 2 l1 st1
  generalize YF 2 l1 st1 = r2 at *
  obtain ⟨x2, l2, st2⟩ := r2
  dsimp only at hq hn2 hb2
  have hn3 := fun ρ a n c (h : SIn ρ ZD a n l2) hc => u64_spec ρ br a n c l2 h hc st2
  generalize YF 8 l2 st2 = r3 at *
  obtain ⟨x3, l3, st3⟩ := r3
  dsimp only at hq hn3
  have hn4 := fun ρ a n c (h : SIn ρ ZD a n l3) hc => u8_spec ρ br a n c l3 h hc st3
  have hb4 := Vu 1 l3 st3
  generalize YF 1 l3 st3 = r4 at *
  obtain ⟨x4, l4, st4⟩ := r4
  dsimp only at hq hn4 hb4
  generalize hB2 : XP b1 st4 (decide ((x4 : Int) ≤ 8)) = b2 at *
  repeat' (first | (refine Zc (.func 152) ?_; refine qC rfl rfl (hn2 _ h1) ?_; rintro v ρ' L' hle ⟨rfl, rfl, a2, n2, c2, h2, hc2, rfl⟩ <;> (try simp only [kM, kN, kO])) | (refine Zc (.func 98) ?_; refine qC rfl rfl (hn3 _ _ _ _ h2 hc2) ?_; rintro v ρ' L' hle ⟨rfl, rfl, a3, n3, c3, h3, hc3, rfl⟩ <;> (try simp only [kM, kN, kO])) | (refine Zc (.func 97) ?_; refine qC rfl rfl (hn4 _ _ _ _ h3 hc3) ?_; rintro v ρ' L' hle ⟨rfl, rfl, a4, n4, c4, h4, hc4, rfl⟩ <;> (try simp only [kM, kN, kO])) | (refine Zc (.func 244) ?_; refine qC rfl rfl (Xz _ bt br all b1 vk vr vs a4 n4 c4 st4 (decide ((x4 : Int) ≤ 8))) ?_; rintro v ρ' L' hle ⟨rfl, rfl, rfl⟩ <;> (try simp only [kM, kN, kO, hB2])) | (refine Zc (.func 247) ?_; refine qC rfl rfl (ok_spec _ bt br all b2 vk vr vs a4 n4 c4 st4) ?_; rintro v ρ' L' hle ⟨rfl, rfl, rfl⟩ <;> (try simp only [kM, kN, kO])) | (refine Zg ?_; first | (refine Zf ?_; refine qQ ?_) | refine Zj ?_) | refine Za ?_ | (refine Zh ?_; refine Zu ?_) | (refine Zi ?_; refine Zv ?_) | intro _)
  by_cases hok2 : (!b2 && decide (st4 = 0)) = true
  ·rw [if_pos hok2] at hq
   simp only [hok2]
   have hn5 := fun ρ (h : SIn ρ ZD a4 n4 l4) => raw_spec ρ br a4 n4 c4 l4 h hc4 st4 x4 (by omega)
   generalize rawR x4 l4 st4 = r5 at *
   obtain ⟨x5, l5, st5⟩ := r5
   dsimp only at hq hn5
   subst hq
   repeat' (first | (refine Zc (.func 202) ?_; refine qC rfl rfl (hn5 _ h4) ?_; rintro v ρ' L' hle ⟨hle5, va, vn, vc, a5, n5, c5, rfl, hvc, hv, h5, hc5, rfl⟩ <;> (try simp only [kM, kN, kO])) | (refine Zg ?_; first | (refine Zf ?_; refine qQ ?_) | refine Zj ?_) | refine Za ?_ | (refine Zh ?_; refine Zu ?_) | (refine Zi ?_; refine Zv ?_) | intro _)
   exact qE ⟨rfl, hle5, a5, n5, c5, h5, hc5, rfl⟩
  ·rw [if_neg hok2] at hq
   subst hq
   simp only [Bool.not_eq_true] at hok2
   simp only [hok2]
   repeat' (first | (refine Zg ?_; first | (refine Zf ?_; refine qQ ?_) | refine Zj ?_) | refine Za ?_ | (refine Zh ?_; refine Zu ?_) | (refine Zi ?_; refine Zv ?_) | intro _)
   exact qE ⟨rfl, Hp.le_refl _, a4, n4, c4, h4, hc4, rfl⟩
 ·rw [if_neg hok] at hq
  subst hq
  simp only [Bool.not_eq_true] at hok
  simp only [hok]
  repeat' (first | (refine Zg ?_; first | (refine Zf ?_; refine qQ ?_) | refine Zj ?_) | refine Za ?_ | (refine Zh ?_; refine Zu ?_) | (refine Zi ?_; refine Zv ?_) | intro _)
  exact qE ⟨rfl, Hp.le_refl _, a1, n1, c1, h1, hc1, rfl⟩
def kidR (l : List UInt8) (st : Int) : Kid × List UInt8 × Int :=
 let r1 := YF 1 l st
 let r2 := YF 2 r1.2.1 r1.2.2
 let r3 := YF 1 r2.2.1 r2.2.2
 (⟨r1.1, r2.1, r3.1⟩, r3.2.1, r3.2.2)
theorem tkid_spec (ρ : Hp) (bt br : Nat) (all : Int) (bad : Bool) (vk vr vs : Value) (a : Option Addr) (n c : Nat) (l : List UInt8) (h : SIn ρ ZD a n l) (hc : n ≤ c) (st : Int) :
  Spec Tryz.prog 258 [.pointer (some ⟨bt, 0, none⟩)] ρ [tkC bt br all bad vk vr vs, rdC br a n c st]
   (fun v ρ' L' => v = .agg ⟨XQ (kidR l st).1⟩ ∧ ρ' = ρ ∧ ∃ a' n' c', SIn ρ' ZD a' n' (kidR l st).2.1 ∧ n' ≤ c' ∧ L' = [tkC bt br all bad vk vr vs, rdC br a' n' c' (kidR l st).2.2]) := by
 have hn1 := u8_spec ρ br a n c l h hc st
 have hb1 := Vu 1 l st
 generalize hq : kidR l st = q
 unfold kidR at hq
 generalize YF 1 l st = r1 at *
 obtain ⟨x1, l1, st1⟩ := r1
 dsimp only at hq hn1 hb1
 have hn2 := fun ρ a n c (h : SIn ρ ZD a n l1) hc => u16_spec ρ br a n c l1 h hc st1
 have hb2 := Vu 2 l1 st1
 generalize YF 2 l1 st1 = r2 at *
 obtain ⟨x2, l2, st2⟩ := r2
 dsimp only at hq hn2 hb2
 have hn3 := fun ρ a n c (h : SIn ρ ZD a n l2) hc => u8_spec ρ br a n c l2 h hc st2
 have hb3 := Vu 1 l2 st2
 generalize YF 1 l2 st2 = r3 at *
 obtain ⟨x3, l3, st3⟩ := r3
 dsimp only at hq hn3 hb3
 subst hq
 refine Ze Tryz.func258 rfl rfl rfl fun u R => ?_
 simp only [Zt, List.cons_append, List.nil_append]
 repeat' (first | (refine Zg ?_; first | (refine Zf ?_; refine qQ ?_) | refine Zj ?_) | refine Za ?_ | (refine Zh ?_; refine Zu ?_) | (refine Zi ?_; refine Zv ?_) | intro _)
 refine Zz (Zr _ _ ([tkC bt br all bad vk vr vs])) (Zy (hT := tk) (Hp.le_refl _)) ?_
 all_goals (refine ZO 0 ?_; refine rNc 1 ?_; refine Yv 2 ?_; refine ZX 3 ?_; refine ZO 6 ?_; refine rNc 7 ?_; refine Yv 8 ?_; refine ZX 9 ?_)
 all_goals (refine Zm (i := 4) ?_; ((try refine Zk ?_); (first | (refine Zc (.func 97) ?_; refine qC rfl rfl (hn1) ?_; rintro v ρ' L' hle ⟨rfl, rfl, a1, n1, c1, h1, hc1, rfl⟩ <;> (try simp only [kM, kN, kO])) | (refine Zj ?_; try intro _)) <;> ((try simp only [kM, kN, kO]); refine Za ?_; refine Zl ?_)))
 all_goals refine rCv 5 ?_
 all_goals (refine Zm (i := 10) ?_; ((try refine Zk ?_); (first | (refine Zc (.func 152) ?_; refine qC rfl rfl (hn2 _ _ _ _ h1 hc1) ?_; rintro v ρ' L' hle ⟨rfl, rfl, a2, n2, c2, h2, hc2, rfl⟩ <;> (try simp only [kM, kN, kO])) | (refine Zj ?_; try intro _)) <;> ((try simp only [kM, kN, kO]); refine Za ?_; refine Zl ?_)))
 all_goals (refine rBu 11 ?_; refine Yv 12 ?_)
 all_goals (refine Zm (i := 13) ?_; ((try refine Zk ?_); (first | (refine Zj ?_; try intro _)) <;> ((try simp only [kM, kN, kO]); refine Za ?_; refine Zl ?_)))
 all_goals refine ZI ?_
 all_goals (repeat' (first | (refine Zc (.func 97) ?_; refine qC rfl rfl (hn3 _ _ _ _ h2 hc2) ?_; rintro v ρ' L' hle ⟨rfl, rfl, a3, n3, c3, h3, hc3, rfl⟩ <;> (try simp only [kM, kN, kO])) | (refine Zg ?_; first | (refine Zf ?_; refine qQ ?_) | refine Zj ?_) | refine Za ?_ | (refine Zh ?_; refine Zu ?_) | (refine Zi ?_; refine Zv ?_) | intro _))
 all_goals exact qE ⟨rfl, rfl, a3, n3, c3, h3, hc3, rfl⟩
def cmpI (x y : Int) : Int := if x < y then -1 else if y < x then 1 else 0
theorem nanI_spec (ρ : Hp) (x : Int) : Spec Tryz.prog 264 [.int .i64 x] ρ [] (fun v ρ' L' => v = .bool false ∧ ρ' = ρ ∧ L' = []) := by
 refine Ze Tryz.func264 rfl rfl rfl fun u R => ?_
 simp only [Zt, List.cons_append, List.nil_append]
 repeat' (first | (refine Zg ?_; first | (refine Zf ?_; refine qQ ?_) | refine Zj ?_) | refine Za ?_ | (refine Zh ?_; refine Zu ?_) | (refine Zi ?_; refine Zv ?_) | intro _)
 exact qE ⟨rfl, rfl, rfl⟩
theorem nanU_spec (ρ : Hp) (x : Int) : Spec Tryz.prog 265 [.int .u16 x] ρ [] (fun v ρ' L' => v = .bool false ∧ ρ' = ρ ∧ L' = []) := by
 refine Ze Tryz.func265 rfl rfl rfl fun u R => ?_
 simp only [Zt, List.cons_append, List.nil_append]
 repeat' (first | (refine Zg ?_; first | (refine Zf ?_; refine qQ ?_) | refine Zj ?_) | refine Za ?_ | (refine Zh ?_; refine Zu ?_) | (refine Zi ?_; refine Zv ?_) | intro _)
 exact qE ⟨rfl, rfl, rfl⟩
theorem cmpI_spec (ρ : Hp) (x y : Int) : Spec Tryz.prog 260 [.int .i64 x, .int .i64 y] ρ [] (fun v ρ' L' => v = .int .i64 (cmpI x y) ∧ ρ' = ρ ∧ L' = []) := by
 refine Ze Tryz.func260 rfl rfl rfl fun u R => ?_
 simp only [Zt, List.cons_append, List.nil_append]
 unfold cmpI
 split
 ·repeat' (first | (refine Zc (.func 264) ?_; refine qC rfl rfl (nanI_spec _ _) ?_; rintro v ρ' L' hle ⟨rfl, rfl, rfl⟩ <;> (try simp only [kM, kN, kO])) | (refine Zg ?_; first | (refine Zf ?_; refine qQ ?_) | refine Zj ?_) | refine Za ?_ | (refine Zh ?_; refine Zu ?_) | (refine Zi ?_; refine Zv ?_) | intro _)
  exact qE ⟨rfl, rfl, rfl⟩
 ·split
  ·repeat' (first | (refine Zc (.func 264) ?_; refine qC rfl rfl (nanI_spec _ _) ?_; rintro v ρ' L' hle ⟨rfl, rfl, rfl⟩ <;> (try simp only [kM, kN, kO])) | (refine Zg ?_; first | (refine Zf ?_; refine qQ ?_) | refine Zj ?_) | refine Za ?_ | (refine Zh ?_; refine Zu ?_) | (refine Zi ?_; refine Zv ?_) | intro _)
   exact qE ⟨rfl, rfl, rfl⟩
  ·repeat' (first | (refine Zc (.func 264) ?_; refine qC rfl rfl (nanI_spec _ _) ?_; rintro v ρ' L' hle ⟨rfl, rfl, rfl⟩ <;> (try simp only [kM, kN, kO])) | (refine Zg ?_; first | (refine Zf ?_; refine qQ ?_) | refine Zj ?_) | refine Za ?_ | (refine Zh ?_; refine Zu ?_) | (refine Zi ?_; refine Zv ?_) | intro _)
   exact qE ⟨rfl, rfl, rfl⟩
theorem cmpU_spec (ρ : Hp) (x y : Int) : Spec Tryz.prog 261 [.int .u16 x, .int .u16 y] ρ [] (fun v ρ' L' => v = .int .i64 (cmpI x y) ∧ ρ' = ρ ∧ L' = []) := by
 refine Ze Tryz.func261 rfl rfl rfl fun u R => ?_
 simp only [Zt, List.cons_append, List.nil_append]
 unfold cmpI
 split
 ·repeat' (first | (refine Zc (.func 265) ?_; refine qC rfl rfl (nanU_spec _ _) ?_; rintro v ρ' L' hle ⟨rfl, rfl, rfl⟩ <;> (try simp only [kM, kN, kO])) | (refine Zg ?_; first | (refine Zf ?_; refine qQ ?_) | refine Zj ?_) | refine Za ?_ | (refine Zh ?_; refine Zu ?_) | (refine Zi ?_; refine Zv ?_) | intro _)
  exact qE ⟨rfl, rfl, rfl⟩
 ·split
  ·repeat' (first | (refine Zc (.func 265) ?_; refine qC rfl rfl (nanU_spec _ _) ?_; rintro v ρ' L' hle ⟨rfl, rfl, rfl⟩ <;> (try simp only [kM, kN, kO])) | (refine Zg ?_; first | (refine Zf ?_; refine qQ ?_) | refine Zj ?_) | refine Za ?_ | (refine Zh ?_; refine Zu ?_) | (refine Zi ?_; refine Zv ?_) | intro _)
   exact qE ⟨rfl, rfl, rfl⟩
  ·repeat' (first | (refine Zc (.func 265) ?_; refine qC rfl rfl (nanU_spec _ _) ?_; rintro v ρ' L' hle ⟨rfl, rfl, rfl⟩ <;> (try simp only [kM, kN, kO])) | (refine Zg ?_; first | (refine Zf ?_; refine qQ ?_) | refine Zj ?_) | refine Za ?_ | (refine Zh ?_; refine Zu ?_) | (refine Zi ?_; refine Zv ?_) | intro _)
   exact qE ⟨rfl, rfl, rfl⟩
theorem or2_spec (ρ : Hp) (b : Nat) (x y : Int) : Spec Tryz.prog 259 [.slice (some ⟨b, 0, none⟩) 2 2] ρ [[(b, .cells ⟨[.int .i64 x, .int .i64 y]⟩ 3 (0, 0))]]
  (fun v ρ' L' => v = .int .i64 (if x = 0 then y else x) ∧ ρ' = ρ ∧ L' = [[(b, .cells ⟨[.int .i64 x, .int .i64 y]⟩ 3 (0, 0))]]) := by
 refine Ze Tryz.func259 rfl rfl rfl fun u R => ?_
 simp only [Zt, List.cons_append, List.nil_append]
 repeat' (first | (refine Zg ?_; first | (refine Zf ?_; refine qQ ?_) | refine Zj ?_) | refine Za ?_ | (refine Zh ?_; refine Zu ?_) | (refine Zi ?_; refine Zv ?_) | intro _)
 refine ZH [(2, _), (3, _), (6, _), (7, _)] (fun (ζ : (Nat)) => [(8, .int .i64 ζ)]) (fun (ζ : (Nat)) => ρ) (fun (ζ : (Nat)) => []) (fun (ζ : (Nat)) => ζ = 0 ∨ (ζ = 1 ∧ x = 0) ∨ (ζ = 2 ∧ x = 0 ∧ y = 0)) (fun (ζ : (Nat)) => 3 - ζ) (0) (.inl rfl) Zo Zo rfl tk ?_
 rintro k hI
 try simp only [List.cons_append, List.nil_append, List.append_assoc, List.append_eq] at hI ⊢
 try dsimp only at hI ⊢
 rcases hI with rfl | ⟨rfl, rfl⟩ | ⟨rfl, rfl, rfl⟩
 ·by_cases h : x = 0
  ·subst h
   repeat' (first | (refine Zg ?_; first | (refine Zf ?_; refine qQ ?_) | refine Zj ?_) | refine Za ?_ | (refine Zh ?_; refine Zu ?_) | (refine Zi ?_; refine Zv ?_) | intro _)
   refine Zx (1) (.inr (.inl ⟨rfl, rfl⟩)) Zo Zo rfl tk inferInstance (by first | omega | (dsimp only; omega))
  ·rw [if_neg h]
   repeat' (first | (refine Zg ?_; first | (refine Zf ?_; refine qQ ?_) | refine Zj ?_) | refine Za ?_ | (refine Zh ?_; refine Zu ?_) | (refine Zi ?_; refine Zv ?_) | intro _)
   exact qE ⟨rfl, rfl, rfl⟩
 ·by_cases h : y = 0
  ·subst h
   repeat' (first | (refine Zg ?_; first | (refine Zf ?_; refine qQ ?_) | refine Zj ?_) | refine Za ?_ | (refine Zh ?_; refine Zu ?_) | (refine Zi ?_; refine Zv ?_) | intro _)
   refine Zx (2) (.inr (.inr ⟨rfl, rfl, rfl⟩)) Zo Zo rfl tk inferInstance (by first | omega | (dsimp only; omega))
  ·repeat' (first | (refine Zg ?_; first | (refine Zf ?_; refine qQ ?_) | refine Zj ?_) | refine Za ?_ | (refine Zh ?_; refine Zu ?_) | (refine Zi ?_; refine Zv ?_) | intro _)
   exact qE ⟨rfl, rfl, rfl⟩
 ·repeat' (first | (refine Zg ?_; first | (refine Zf ?_; refine qQ ?_) | refine Zj ?_) | refine Za ?_ | (refine Zh ?_; refine Zu ?_) | (refine Zi ?_; refine Zv ?_) | intro _)
  exact qE ⟨rfl, rfl, rfl⟩
def cmpK (t1 : Int) (i1 : Nat) (t2 : Int) (i2 : Nat) : Int := if cmpI t1 t2 = 0 then cmpI i1 i2 else cmpI t1 t2
theorem XV (ρ : Hp) (t1 : Int) (i1 : Nat) (t2 : Int) (i2 : Nat) : Spec Tryz.prog 252 [.agg ⟨keyV t1 i1⟩, .agg ⟨keyV t2 i2⟩] ρ [] (fun v ρ' L' => v = .int .i64 (cmpK t1 i1 t2 i2) ∧ ρ' = ρ ∧ L' = []) := by
 refine Ze Tryz.func252 rfl rfl rfl fun u R => ?_
 simp only [Zt, List.cons_append, List.nil_append]
 repeat' (first | (refine Zg ?_; first | (refine Zf ?_; refine qQ ?_) | refine Zj ?_) | refine Za ?_ | (refine Zh ?_; refine Zu ?_) | (refine Zi ?_; refine Zv ?_) | intro _)
 refine Zz (Zr _ _ _) Ye ?_
 all_goals (refine Yv 0 ?_; refine ZX 1 ?_; refine Yv 2 ?_; refine ZX 3 ?_; refine Yv 5 ?_; refine ZX 6 ?_; refine Yv 7 ?_; refine ZX 8 ?_)
 all_goals (refine Zm (i := 4) ?_; ((try refine Zk ?_); (first | (refine Zc (.func 260) ?_; refine qC rfl rfl (cmpI_spec _ _ _) ?_; rintro v ρ' L' hle ⟨rfl, rfl, rfl⟩ <;> (try simp only [kM, kN, kO])) | (refine Zj ?_; try intro _)) <;> ((try simp only [kM, kN, kO]); refine Za ?_; refine Zl ?_)))
 all_goals (refine Zm (i := 9) ?_; ((try refine Zk ?_); (first | (refine Zc (.func 261) ?_; refine qC rfl rfl (cmpU_spec _ _ _) ?_; rintro v ρ' L' hle ⟨rfl, rfl, rfl⟩ <;> (try simp only [kM, kN, kO])) | (refine Zj ?_; try intro _)) <;> ((try simp only [kM, kN, kO]); refine Za ?_; refine Zl ?_)))
 all_goals (refine Zm (i := 10) ?_; ((try refine Zk ?_); (first | (refine ZC rfl rfl rfl rfl (by simp) rfl rfl (fun _ => ?_)) | (refine Zj ?_; try intro _)) <;> ((try simp only [kM, kN, kO]); refine Za ?_; refine Zl ?_)))
 all_goals (refine Zm (i := 11) ?_; ((try refine Zk ?_); (first | (refine Zc (.func 259) ?_; refine qC rfl rfl (or2_spec _ _ _ _) ?_; rintro v ρ' L' hle ⟨rfl, rfl, rfl⟩ <;> (try simp only [kM, kN, kO])) | (refine Zj ?_; try intro _)) <;> ((try simp only [kM, kN, kO]); refine Za ?_; refine Zl ?_)))
 all_goals (refine ZN ?_; refine rAs 12 ?_; refine ZI ?_)
 all_goals (repeat' (first | (refine Zg ?_; first | (refine Zf ?_; refine qQ ?_) | refine Zj ?_) | refine Za ?_ | (refine Zh ?_; refine Zu ?_) | (refine Zi ?_; refine Zv ?_) | intro _))
 all_goals exact qE ⟨rfl, rfl, rfl⟩
def Wi (r : Row) : Bool := decide ((0 ≤ r.t ∧ r.t < 3) ∧ r.note.length ≤ 8)
theorem checkRow_spec (ρ : Hp) (r : Row) : Spec Tryz.prog 225 [.agg ⟨YT r⟩] ρ [] (fun v ρ' L' => v = .int .i64 (if Wi r then 0 else 151) ∧ ρ' = ρ ∧ L' = []) := by
 obtain ⟨t, id, val, note⟩ := r
 refine Ze Tryz.func225 rfl rfl rfl fun u R => ?_
 simp only [Zt, List.cons_append, List.nil_append, Wi, decide_eq_true_eq]
 by_cases h1 : 0 ≤ t ∧ t < 3
 ·have hd : decide (0 ≤ t ∧ t < 3) = true := decide_eq_true h1
  by_cases h2 : note.length ≤ 8
  ·rw [if_pos ⟨h1, h2⟩]
   repeat' (first | (refine Zc (.func 229) ?_; refine qC rfl rfl (WA _ _) ?_; rintro v ρ' L' hle ⟨rfl, rfl, rfl⟩ <;> (try simp only [kM, kN, kO, hd])) | (refine Zg ?_; first | (refine Zf ?_; refine qQ ?_) | refine Zj ?_) | refine Za ?_ | (refine Zh ?_; refine Zu ?_) | (refine Zi ?_; refine Zv ?_) | intro _)
   exact qE ⟨rfl, rfl, rfl⟩
  ·rw [if_neg (fun h => h2 h.2)]
   repeat' (first | (refine Zc (.func 229) ?_; refine qC rfl rfl (WA _ _) ?_; rintro v ρ' L' hle ⟨rfl, rfl, rfl⟩ <;> (try simp only [kM, kN, kO, hd])) | (refine Zg ?_; first | (refine Zf ?_; refine qQ ?_) | refine Zj ?_) | refine Za ?_ | (refine Zh ?_; refine Zu ?_) | (refine Zi ?_; refine Zv ?_) | intro _)
   exact qE ⟨rfl, rfl, rfl⟩
 ·have hd : decide (0 ≤ t ∧ t < 3) = false := decide_eq_false h1
  rw [if_neg (fun h => h1 h.1)]
  repeat' (first | (refine Zc (.func 229) ?_; refine qC rfl rfl (WA _ _) ?_; rintro v ρ' L' hle ⟨rfl, rfl, rfl⟩ <;> (try simp only [kM, kN, kO, hd])) | (refine Zg ?_; first | (refine Zf ?_; refine qQ ?_) | refine Zj ?_) | refine Za ?_ | (refine Zh ?_; refine Zu ?_) | (refine Zi ?_; refine Zv ?_) | intro _)
  exact qE ⟨rfl, rfl, rfl⟩
def Yp {α : Type} (most : Nat) (right : Nat → α → Bool) (lt : α → α → Bool) (l : List α) : Nat → Bool
 | 0 => decide (l.length ≤ most)
 | k + 1 => Yp most right lt l k && (match l[k]? with | some x => right k x && (decide (k = 0) || (match l[k - 1]? with | some y => lt y x | none => false)) | none => false)
theorem Vi {α : Type} {most : Nat} {right : Nat → α → Bool} {lt : α → α → Bool} {l : List α} {k : Nat} (h : k < l.length) : Yp most right lt l (k + 1) = (Yp most right lt l k && (right k l[k] && (decide (k = 0) || lt (l[k - 1]'(by omega)) l[k]))) := by
 rw [Yp]
 simp [h, show k - 1 < l.length by omega]
theorem risesB_false {α : Type} {most : Nat} {right : Nat → α → Bool} {lt : α → α → Bool} {l : List α} {k : Nat} (h : Yp most right lt l k = false) : ∀ m, Yp most right lt l (k + m) = false
 | 0 => h
 | m + 1 => by rw [← Nat.add_assoc, Yp, risesB_false h m]; rfl
theorem WP {α : Type} {most : Nat} {right : Nat → α → Bool} {lt : α → α → Bool} {l : List α} {k n : Nat} (h : Yp most right lt l k = false) (hk : k ≤ n) : Yp most right lt l n = false := by
 have := risesB_false h (n - k)
 rwa [Nat.add_sub_cancel' hk] at this
theorem Yd (ρ : Hp) (r : Row) : Spec Tryz.prog 223 [.agg ⟨YT r⟩] ρ [] (fun v ρ' L' => v = .agg ⟨keyV r.t r.id⟩ ∧ ρ' = ρ ∧ L' = []) := by
 refine Ze Tryz.func223 rfl rfl rfl fun u R => ?_
 simp only [Zt, List.cons_append, List.nil_append]
 repeat' (first | (refine Zg ?_; first | (refine Zf ?_; refine qQ ?_) | refine Zj ?_) | refine Za ?_ | (refine Zh ?_; refine Zu ?_) | (refine Zi ?_; refine Zv ?_) | intro _)
 exact qE ⟨rfl, rfl, rfl⟩
theorem XE (ρ : Hp) (i : Int) (r : Row) : Spec Tryz.prog 224 [.int .i64 i, .agg ⟨YT r⟩] ρ [] (fun v ρ' L' => v = .bool (Wi r) ∧ ρ' = ρ ∧ L' = []) := by
 refine Ze Tryz.func224 rfl rfl rfl fun u R => ?_
 simp only [Zt, List.cons_append, List.nil_append]
 cases h : Wi r
 ·repeat' (first | (refine Zc (.func 225) ?_; refine qC rfl rfl (checkRow_spec _ r) ?_; rintro v ρ' L' hle ⟨rfl, rfl, rfl⟩ <;> (try simp only [kM, kN, kO, h, if_false, Bool.false_eq_true])) | (refine Zg ?_; first | (refine Zf ?_; refine qQ ?_) | refine Zj ?_) | refine Za ?_ | (refine Zh ?_; refine Zu ?_) | (refine Zi ?_; refine Zv ?_) | intro _)
  exact qE ⟨rfl, rfl, rfl⟩
 ·repeat' (first | (refine Zc (.func 225) ?_; refine qC rfl rfl (checkRow_spec _ r) ?_; rintro v ρ' L' hle ⟨rfl, rfl, rfl⟩ <;> (try simp only [kM, kN, kO, h, if_true])) | (refine Zg ?_; first | (refine Zf ?_; refine qQ ?_) | refine Zj ?_) | refine Za ?_ | (refine Zh ?_; refine Zu ?_) | (refine Zi ?_; refine Zv ?_) | intro _)
  exact qE ⟨rfl, rfl, rfl⟩
def ltR (y x : Row) : Bool := decide (cmpK y.t y.id x.t x.id < 0)
def rowsOk (l : List Row) : Bool := Yp 4 (fun _ r => Wi r) ltR l l.length
theorem rowV_len (r : Row) : (YT r).length = 4 := rfl
theorem risesRow_spec (ρ : Hp) (a : Option Addr) (n c : Nat) (l : List Row) (h : AIn ρ 4 YT a n l) (hn : n ≤ 1000000) :
  Spec Tryz.prog 222 [.slice a n c, .int .i64 4, .func (.func 223) ⟨[]⟩ ⟨[]⟩, .func (.func 224) ⟨[]⟩ ⟨[]⟩] ρ [] (fun v ρ' L' => v = .bool (rowsOk l) ∧ ρ' = ρ ∧ L' = []) := by
 have hl := h.len
 unfold rowsOk
 rw [hl]
 refine Ze Tryz.func222 rfl rfl rfl fun u R => ?_
 simp only [Zt, List.cons_append, List.nil_append]
 repeat' (first | (refine Zg ?_; first | (refine Zf ?_; refine qQ ?_) | refine Zj ?_) | refine Za ?_ | (refine Zh ?_; refine Zu ?_) | (refine Zi ?_; refine Zv ?_) | intro _)
 have e0 : decide ((n : Int) ≤ 4) = Yp 4 (fun _ r => Wi r) ltR l 0 := by
  rw [Yp]; simp [hl]; omega
 rw [e0]
 refine ZH [(0, _), (2, _), (3, _), (8, _), (16, _), (17, _)] (fun (ζ : (Nat)) => [(18, .int .i64 ζ), (9, .bool (Yp 4 (fun _ r => Wi r) ltR l ζ))]) (fun (ζ : (Nat)) => ρ) (fun (ζ : (Nat)) => []) (fun (ζ : (Nat)) => ζ ≤ n) (fun (ζ : (Nat)) => n - ζ) (0) (Nat.zero_le _) Zo Zo rfl tk ?_
 rintro k hI
 try simp only [List.cons_append, List.nil_append, List.append_assoc, List.append_eq] at hI ⊢
 try dsimp only at hI ⊢
 by_cases hlt : k < n
 ·obtain ⟨b, off, C, T, fr, rfl, hb, hfit, hc⟩ := h.get (show k < l.length by omega)
  have hs := Vi (most := 4) (right := fun _ r => Wi r) (lt := ltR) (show k < l.length by omega)
  have hfin := fun (e : Yp 4 (fun _ r => Wi r) ltR l (k + 1) = false) => WP e (show k + 1 ≤ n by omega)
  cases hok : Yp 4 (fun _ r => Wi r) ltR l k
  ·rw [hok, Bool.false_and] at hs
   rw [hfin hs]
   generalize l[k] = x at *
   repeat' (first | (refine Zg ?_; first | (refine Zf ?_; refine qQ ?_) | refine Zj ?_) | refine Za ?_ | (refine Zh ?_; refine Zu ?_) | (refine Zi ?_; refine Zv ?_) | intro _)
   refine Zz (Zr _ _ _) Ye ?_
   all_goals (refine ZO 0 ?_; refine ZO 1 ?_; (first | refine Zd 2 ?_ | refine Zb 2 ?_ | refine Yk 2 ?_); (first | refine Zd 3 ?_ | refine Zb 3 ?_ | refine Yk 3 ?_); (first | refine Zd 4 ?_ | refine Zb 4 ?_ | refine wLd 4 ?_))
   all_goals (first | refine Zd 5 ?_ | refine Zb 5 ?_ | (refine Zm (i := 5) ?_; ((try refine Zk ?_); (first | (refine Zj ?_; try intro _)) <;> ((try simp only [kM, kN, kO]); refine Za ?_; refine Zl ?_))))
   all_goals (refine rPk 6 ?_; refine ZO 7 ?_; (first | refine Zd 8 ?_ | refine Zb 8 ?_ | refine Yk 8 ?_); (first | refine Zd 9 ?_ | refine Zb 9 ?_ | refine wCm 9 ?_); (first | refine Zd 10 ?_ | refine Zb 10 ?_ | refine Yk 10 ?_); (first | refine Zd 11 ?_ | refine Zb 11 ?_ | refine Yk 11 ?_); (first | refine Zd 12 ?_ | refine Zb 12 ?_ | refine Yk 12 ?_); (first | refine Zd 13 ?_ | refine Zb 13 ?_ | refine Yk 13 ?_); (first | refine Zd 14 ?_ | refine Zb 14 ?_ | refine wSb 14 ?_); (first | refine Zd 15 ?_ | refine Zb 15 ?_ | refine wIa 15 ?_); (first | refine Zd 16 ?_ | refine Zb 16 ?_ | refine wLd 16 ?_); (first | refine Zd 18 ?_ | refine Zb 18 ?_ | refine Yk 18 ?_); (first | refine Zd 19 ?_ | refine Zb 19 ?_ | refine wLd 19 ?_))
   all_goals (first | refine Zd 17 ?_ | refine Zb 17 ?_ | (refine Zm (i := 17) ?_; ((try refine Zk ?_); (first | (refine Zj ?_; try intro _)) <;> ((try simp only [kM, kN, kO]); refine Za ?_; refine Zl ?_))))
   all_goals (first | refine Zd 20 ?_ | refine Zb 20 ?_ | (refine Zm (i := 20) ?_; ((try refine Zk ?_); (first | (refine Zj ?_; try intro _)) <;> ((try simp only [kM, kN, kO]); refine Za ?_; refine Zl ?_))))
   all_goals (first | refine Zd 21 ?_ | refine Zb 21 ?_ | (refine Zm (i := 21) ?_; ((try refine Zk ?_); (first | (refine Zj ?_; try intro _)) <;> ((try simp only [kM, kN, kO]); refine Za ?_; refine Zl ?_))))
   all_goals (refine ZN ?_; (first | refine Zd 22 ?_ | refine Zb 22 ?_ | refine wCm 22 ?_); (first | refine Zd 23 ?_ | refine Zb 23 ?_ | refine wPk 23 ?_); refine rPk 24 ?_; refine rAs 25 ?_; refine ZI ?_)
   repeat' (first | (refine Zg ?_; first | (refine Zf ?_; refine qQ ?_) | refine Zj ?_) | refine Za ?_ | (refine Zh ?_; refine Zu ?_) | (refine Zi ?_; refine Zv ?_) | intro _)
   exact qE ⟨rfl, rfl, rfl⟩
  ·rw [hok, Bool.true_and] at hs
   cases hx : Wi l[k]
   ·rw [hx, Bool.false_and] at hs
    rw [hfin hs]
    generalize l[k] = x at *
    repeat' (first | (refine Zg ?_; first | (refine Zf ?_; refine qQ ?_) | refine Zj ?_) | refine Za ?_ | (refine Zh ?_; refine Zu ?_) | (refine Zi ?_; refine Zv ?_) | intro _)
    refine Zz (Zr _ _ _) Ye ?_
    all_goals (refine ZO 0 ?_; refine ZO 1 ?_; (first | refine Zd 2 ?_ | refine Zb 2 ?_ | refine Yk 2 ?_); (first | refine Zd 3 ?_ | refine Zb 3 ?_ | refine Yk 3 ?_); (first | refine Zd 4 ?_ | refine Zb 4 ?_ | refine wLd 4 ?_))
    all_goals (first | refine Zd 5 ?_ | refine Zb 5 ?_ | (refine Zm (i := 5) ?_; ((try refine Zk ?_); (first | (refine Zc (.tmp 25) ?_; refine qC rfl rfl (XE _ _ _) ?_; rintro v ρ' L' hle ⟨rfl, rfl, rfl⟩ <;> (try simp only [kM, kN, kO, hx])) | (refine Zc (.tmp 34) ?_; refine qC rfl rfl (Yd _ _) ?_; rintro v ρ' L' hle ⟨rfl, rfl, rfl⟩ <;> (try simp only [kM, kN, kO])) | (refine Zc (.tmp 41) ?_; refine qC rfl rfl (Yd _ _) ?_; rintro v ρ' L' hle ⟨rfl, rfl, rfl⟩ <;> (try simp only [kM, kN, kO])) | (refine Zj ?_; try intro _)) <;> ((try simp only [kM, kN, kO]); refine Za ?_; refine Zl ?_))))
    all_goals (refine rPk 6 ?_; refine ZO 7 ?_; (first | refine Zd 8 ?_ | refine Zb 8 ?_ | refine Yk 8 ?_); (first | refine Zd 9 ?_ | refine Zb 9 ?_ | refine wCm 9 ?_); (first | refine Zd 10 ?_ | refine Zb 10 ?_ | refine Yk 10 ?_); (first | refine Zd 11 ?_ | refine Zb 11 ?_ | refine Yk 11 ?_); (first | refine Zd 12 ?_ | refine Zb 12 ?_ | refine Yk 12 ?_); (first | refine Zd 13 ?_ | refine Zb 13 ?_ | refine Yk 13 ?_); (first | refine Zd 14 ?_ | refine Zb 14 ?_ | refine wSb 14 ?_); (first | refine Zd 15 ?_ | refine Zb 15 ?_ | refine wIa 15 ?_); (first | refine Zd 16 ?_ | refine Zb 16 ?_ | refine wLd 16 ?_); (first | refine Zd 18 ?_ | refine Zb 18 ?_ | refine Yk 18 ?_); (first | refine Zd 19 ?_ | refine Zb 19 ?_ | refine wLd 19 ?_))
    all_goals (first | refine Zd 17 ?_ | refine Zb 17 ?_ | (refine Zm (i := 17) ?_; ((try refine Zk ?_); (first | (refine Zc (.tmp 25) ?_; refine qC rfl rfl (XE _ _ _) ?_; rintro v ρ' L' hle ⟨rfl, rfl, rfl⟩ <;> (try simp only [kM, kN, kO, hx])) | (refine Zc (.tmp 34) ?_; refine qC rfl rfl (Yd _ _) ?_; rintro v ρ' L' hle ⟨rfl, rfl, rfl⟩ <;> (try simp only [kM, kN, kO])) | (refine Zc (.tmp 41) ?_; refine qC rfl rfl (Yd _ _) ?_; rintro v ρ' L' hle ⟨rfl, rfl, rfl⟩ <;> (try simp only [kM, kN, kO])) | (refine Zj ?_; try intro _)) <;> ((try simp only [kM, kN, kO]); refine Za ?_; refine Zl ?_))))
    all_goals (first | refine Zd 20 ?_ | refine Zb 20 ?_ | (refine Zm (i := 20) ?_; ((try refine Zk ?_); (first | (refine Zc (.tmp 25) ?_; refine qC rfl rfl (XE _ _ _) ?_; rintro v ρ' L' hle ⟨rfl, rfl, rfl⟩ <;> (try simp only [kM, kN, kO, hx])) | (refine Zc (.tmp 34) ?_; refine qC rfl rfl (Yd _ _) ?_; rintro v ρ' L' hle ⟨rfl, rfl, rfl⟩ <;> (try simp only [kM, kN, kO])) | (refine Zc (.tmp 41) ?_; refine qC rfl rfl (Yd _ _) ?_; rintro v ρ' L' hle ⟨rfl, rfl, rfl⟩ <;> (try simp only [kM, kN, kO])) | (refine Zj ?_; try intro _)) <;> ((try simp only [kM, kN, kO]); refine Za ?_; refine Zl ?_))))
    all_goals (first | refine Zd 21 ?_ | refine Zb 21 ?_ | (refine Zm (i := 21) ?_; ((try refine Zk ?_); (first | (refine Zc (.func 252) ?_; refine qC rfl rfl (XV _ _ _ _ _) ?_; rintro v ρ' L' hle ⟨rfl, rfl, rfl⟩ <;> (try simp only [kM, kN, kO])) | (refine Zj ?_; try intro _)) <;> ((try simp only [kM, kN, kO]); refine Za ?_; refine Zl ?_))))
    all_goals (refine ZN ?_; (first | refine Zd 22 ?_ | refine Zb 22 ?_ | refine wCm 22 ?_); (first | refine Zd 23 ?_ | refine Zb 23 ?_ | refine wPk 23 ?_); refine rPk 24 ?_; refine rAs 25 ?_; refine ZI ?_)
    repeat' (first | (refine Zg ?_; first | (refine Zf ?_; refine qQ ?_) | refine Zj ?_) | refine Za ?_ | (refine Zh ?_; refine Zu ?_) | (refine Zi ?_; refine Zv ?_) | intro _)
    exact qE ⟨rfl, rfl, rfl⟩
   ·rw [hx, Bool.true_and] at hs
    by_cases hk0 : k = 0
    ·have hs' : Yp 4 (fun _ r => Wi r) ltR l (k + 1) = true := by rw [hs]; simp [hk0]
     generalize l[k] = x at *
     repeat' (first | (refine Zg ?_; first | (refine Zf ?_; refine qQ ?_) | refine Zj ?_) | refine Za ?_ | (refine Zh ?_; refine Zu ?_) | (refine Zi ?_; refine Zv ?_) | intro _)
     refine Zz (Zr _ _ _) Ye ?_
     all_goals (refine ZO 0 ?_; refine ZO 1 ?_; (first | refine Zd 2 ?_ | refine Zb 2 ?_ | refine Yk 2 ?_); (first | refine Zd 3 ?_ | refine Zb 3 ?_ | refine Yk 3 ?_); (first | refine Zd 4 ?_ | refine Zb 4 ?_ | refine wLd 4 ?_))
     all_goals (first | refine Zd 5 ?_ | refine Zb 5 ?_ | (refine Zm (i := 5) ?_; ((try refine Zk ?_); (first | (refine Zc (.tmp 25) ?_; refine qC rfl rfl (XE _ _ _) ?_; rintro v ρ' L' hle ⟨rfl, rfl, rfl⟩ <;> (try simp only [kM, kN, kO, hx])) | (refine Zc (.tmp 34) ?_; refine qC rfl rfl (Yd _ _) ?_; rintro v ρ' L' hle ⟨rfl, rfl, rfl⟩ <;> (try simp only [kM, kN, kO])) | (refine Zc (.tmp 41) ?_; refine qC rfl rfl (Yd _ _) ?_; rintro v ρ' L' hle ⟨rfl, rfl, rfl⟩ <;> (try simp only [kM, kN, kO])) | (refine Zj ?_; try intro _)) <;> ((try simp only [kM, kN, kO]); refine Za ?_; refine Zl ?_))))
     all_goals (refine rPk 6 ?_; refine ZO 7 ?_; (first | refine Zd 8 ?_ | refine Zb 8 ?_ | refine Yk 8 ?_); (first | refine Zd 9 ?_ | refine Zb 9 ?_ | refine wCm 9 ?_); (first | refine Zd 10 ?_ | refine Zb 10 ?_ | refine Yk 10 ?_); (first | refine Zd 11 ?_ | refine Zb 11 ?_ | refine Yk 11 ?_); (first | refine Zd 12 ?_ | refine Zb 12 ?_ | refine Yk 12 ?_); (first | refine Zd 13 ?_ | refine Zb 13 ?_ | refine Yk 13 ?_); (first | refine Zd 14 ?_ | refine Zb 14 ?_ | refine wSb 14 ?_); (first | refine Zd 15 ?_ | refine Zb 15 ?_ | refine wIa 15 ?_); (first | refine Zd 16 ?_ | refine Zb 16 ?_ | refine wLd 16 ?_); (first | refine Zd 18 ?_ | refine Zb 18 ?_ | refine Yk 18 ?_); (first | refine Zd 19 ?_ | refine Zb 19 ?_ | refine wLd 19 ?_))
     all_goals (first | refine Zd 17 ?_ | refine Zb 17 ?_ | (refine Zm (i := 17) ?_; ((try refine Zk ?_); (first | (refine Zc (.tmp 25) ?_; refine qC rfl rfl (XE _ _ _) ?_; rintro v ρ' L' hle ⟨rfl, rfl, rfl⟩ <;> (try simp only [kM, kN, kO, hx])) | (refine Zc (.tmp 34) ?_; refine qC rfl rfl (Yd _ _) ?_; rintro v ρ' L' hle ⟨rfl, rfl, rfl⟩ <;> (try simp only [kM, kN, kO])) | (refine Zc (.tmp 41) ?_; refine qC rfl rfl (Yd _ _) ?_; rintro v ρ' L' hle ⟨rfl, rfl, rfl⟩ <;> (try simp only [kM, kN, kO])) | (refine Zj ?_; try intro _)) <;> ((try simp only [kM, kN, kO]); refine Za ?_; refine Zl ?_))))
     all_goals (first | refine Zd 20 ?_ | refine Zb 20 ?_ | (refine Zm (i := 20) ?_; ((try refine Zk ?_); (first | (refine Zc (.tmp 25) ?_; refine qC rfl rfl (XE _ _ _) ?_; rintro v ρ' L' hle ⟨rfl, rfl, rfl⟩ <;> (try simp only [kM, kN, kO, hx])) | (refine Zc (.tmp 34) ?_; refine qC rfl rfl (Yd _ _) ?_; rintro v ρ' L' hle ⟨rfl, rfl, rfl⟩ <;> (try simp only [kM, kN, kO])) | (refine Zc (.tmp 41) ?_; refine qC rfl rfl (Yd _ _) ?_; rintro v ρ' L' hle ⟨rfl, rfl, rfl⟩ <;> (try simp only [kM, kN, kO])) | (refine Zj ?_; try intro _)) <;> ((try simp only [kM, kN, kO]); refine Za ?_; refine Zl ?_))))
     all_goals (first | refine Zd 21 ?_ | refine Zb 21 ?_ | (refine Zm (i := 21) ?_; ((try refine Zk ?_); (first | (refine Zc (.func 252) ?_; refine qC rfl rfl (XV _ _ _ _ _) ?_; rintro v ρ' L' hle ⟨rfl, rfl, rfl⟩ <;> (try simp only [kM, kN, kO])) | (refine Zj ?_; try intro _)) <;> ((try simp only [kM, kN, kO]); refine Za ?_; refine Zl ?_))))
     all_goals (refine ZN ?_; (first | refine Zd 22 ?_ | refine Zb 22 ?_ | refine wCm 22 ?_); (first | refine Zd 23 ?_ | refine Zb 23 ?_ | refine wPk 23 ?_); refine rPk 24 ?_; refine rAs 25 ?_; refine ZI ?_)
     repeat' (first | (refine Zg ?_; first | (refine Zf ?_; refine qQ ?_) | refine Zj ?_) | refine Za ?_ | (refine Zh ?_; refine Zu ?_) | (refine Zi ?_; refine Zv ?_) | intro _)
     rw [← hs']
     refine Zx (k + 1) (hlt) Zo Zo rfl tk inferInstance (by first | omega | (dsimp only; omega))
    ·have hd : decide (k = 0) = false := decide_eq_false hk0
     obtain ⟨b2, off2, C2, T2, fr2, f1, hb2, hfit2, hc2⟩ := h.get (show k - 1 < l.length by omega)
     cases f1
     rw [hb] at hb2
     cases hb2
     have ek : ((k : Int) - 1).toNat = k - 1 := by omega
     rw [← ek] at hfit2
     have hc3 : List.take 4 (List.drop (off + ((k : Int) - 1).toNat * 4) C) = YT (l[k - 1]'(by omega)) := by rw [ek]; exact hc2
     clear hc2
     rw [hd, Bool.false_or] at hs
     generalize l[k] = x at *
     generalize l[k - 1]'(by omega) = y at *
     unfold ltR at hs
     by_cases hcm : cmpK y.t y.id x.t x.id < 0
     ·rw [decide_eq_true hcm] at hs
      repeat' (first | (refine Zg ?_; first | (refine Zf ?_; refine qQ ?_) | refine Zj ?_) | refine Za ?_ | (refine Zh ?_; refine Zu ?_) | (refine Zi ?_; refine Zv ?_) | intro _)
      refine Zz (Zr _ _ _) Ye ?_
      all_goals (refine ZO 0 ?_; refine ZO 1 ?_; (first | refine Zd 2 ?_ | refine Zb 2 ?_ | refine Yk 2 ?_); (first | refine Zd 3 ?_ | refine Zb 3 ?_ | refine Yk 3 ?_); (first | refine Zd 4 ?_ | refine Zb 4 ?_ | refine wLd 4 ?_))
      all_goals (first | refine Zd 5 ?_ | refine Zb 5 ?_ | (refine Zm (i := 5) ?_; ((try refine Zk ?_); (first | (refine Zc (.tmp 25) ?_; refine qC rfl rfl (XE _ _ _) ?_; rintro v ρ' L' hle ⟨rfl, rfl, rfl⟩ <;> (try simp only [kM, kN, kO, hx])) | (refine Zc (.tmp 34) ?_; refine qC rfl rfl (Yd _ _) ?_; rintro v ρ' L' hle ⟨rfl, rfl, rfl⟩ <;> (try simp only [kM, kN, kO])) | (refine Zc (.tmp 41) ?_; refine qC rfl rfl (Yd _ _) ?_; rintro v ρ' L' hle ⟨rfl, rfl, rfl⟩ <;> (try simp only [kM, kN, kO])) | (refine Zj ?_; try intro _)) <;> ((try simp only [kM, kN, kO]); refine Za ?_; refine Zl ?_))))
      all_goals (refine rPk 6 ?_; refine ZO 7 ?_; (first | refine Zd 8 ?_ | refine Zb 8 ?_ | refine Yk 8 ?_); (first | refine Zd 9 ?_ | refine Zb 9 ?_ | refine wCm 9 ?_); (first | refine Zd 10 ?_ | refine Zb 10 ?_ | refine Yk 10 ?_); (first | refine Zd 11 ?_ | refine Zb 11 ?_ | refine Yk 11 ?_); (first | refine Zd 12 ?_ | refine Zb 12 ?_ | refine Yk 12 ?_); (first | refine Zd 13 ?_ | refine Zb 13 ?_ | refine Yk 13 ?_); (first | refine Zd 14 ?_ | refine Zb 14 ?_ | refine wSb 14 ?_); (first | refine Zd 15 ?_ | refine Zb 15 ?_ | refine wIa 15 ?_); (first | refine Zd 16 ?_ | refine Zb 16 ?_ | refine wLd 16 ?_); (first | refine Zd 18 ?_ | refine Zb 18 ?_ | refine Yk 18 ?_); (first | refine Zd 19 ?_ | refine Zb 19 ?_ | refine wLd 19 ?_))
      all_goals (first | refine Zd 17 ?_ | refine Zb 17 ?_ | (refine Zm (i := 17) ?_; ((try refine Zk ?_); (first | (refine Zc (.tmp 25) ?_; refine qC rfl rfl (XE _ _ _) ?_; rintro v ρ' L' hle ⟨rfl, rfl, rfl⟩ <;> (try simp only [kM, kN, kO, hx])) | (refine Zc (.tmp 34) ?_; refine qC rfl rfl (Yd _ _) ?_; rintro v ρ' L' hle ⟨rfl, rfl, rfl⟩ <;> (try simp only [kM, kN, kO])) | (refine Zc (.tmp 41) ?_; refine qC rfl rfl (Yd _ _) ?_; rintro v ρ' L' hle ⟨rfl, rfl, rfl⟩ <;> (try simp only [kM, kN, kO])) | (refine Zj ?_; try intro _)) <;> ((try simp only [kM, kN, kO]); refine Za ?_; refine Zl ?_))))
      all_goals (first | refine Zd 20 ?_ | refine Zb 20 ?_ | (refine Zm (i := 20) ?_; ((try refine Zk ?_); (first | (refine Zc (.tmp 25) ?_; refine qC rfl rfl (XE _ _ _) ?_; rintro v ρ' L' hle ⟨rfl, rfl, rfl⟩ <;> (try simp only [kM, kN, kO, hx])) | (refine Zc (.tmp 34) ?_; refine qC rfl rfl (Yd _ _) ?_; rintro v ρ' L' hle ⟨rfl, rfl, rfl⟩ <;> (try simp only [kM, kN, kO])) | (refine Zc (.tmp 41) ?_; refine qC rfl rfl (Yd _ _) ?_; rintro v ρ' L' hle ⟨rfl, rfl, rfl⟩ <;> (try simp only [kM, kN, kO])) | (refine Zj ?_; try intro _)) <;> ((try simp only [kM, kN, kO]); refine Za ?_; refine Zl ?_))))
      all_goals (first | refine Zd 21 ?_ | refine Zb 21 ?_ | (refine Zm (i := 21) ?_; ((try refine Zk ?_); (first | (refine Zc (.func 252) ?_; refine qC rfl rfl (XV _ _ _ _ _) ?_; rintro v ρ' L' hle ⟨rfl, rfl, rfl⟩ <;> (try simp only [kM, kN, kO])) | (refine Zj ?_; try intro _)) <;> ((try simp only [kM, kN, kO]); refine Za ?_; refine Zl ?_))))
      all_goals (refine ZN ?_; (first | refine Zd 22 ?_ | refine Zb 22 ?_ | refine wCm 22 ?_); (first | refine Zd 23 ?_ | refine Zb 23 ?_ | refine wPk 23 ?_); refine rPk 24 ?_; refine rAs 25 ?_; refine ZI ?_)
      all_goals (repeat' (first | (refine Zg ?_; first | (refine Zf ?_; refine qQ ?_) | refine Zj ?_) | refine Za ?_ | (refine Zh ?_; refine Zu ?_) | (refine Zi ?_; refine Zv ?_) | intro _))
      all_goals rw [← hs]
      all_goals refine Zx (k + 1) (hlt) Zo Zo rfl tk inferInstance (by first | omega | (dsimp only; omega))
     ·rw [decide_eq_false hcm] at hs
      rw [hfin hs]
      repeat' (first | (refine Zg ?_; first | (refine Zf ?_; refine qQ ?_) | refine Zj ?_) | refine Za ?_ | (refine Zh ?_; refine Zu ?_) | (refine Zi ?_; refine Zv ?_) | intro _)
      refine Zz (Zr _ _ _) Ye ?_
      all_goals (refine ZO 0 ?_; refine ZO 1 ?_; (first | refine Zd 2 ?_ | refine Zb 2 ?_ | refine Yk 2 ?_); (first | refine Zd 3 ?_ | refine Zb 3 ?_ | refine Yk 3 ?_); (first | refine Zd 4 ?_ | refine Zb 4 ?_ | refine wLd 4 ?_))
      all_goals (first | refine Zd 5 ?_ | refine Zb 5 ?_ | (refine Zm (i := 5) ?_; ((try refine Zk ?_); (first | (refine Zc (.tmp 25) ?_; refine qC rfl rfl (XE _ _ _) ?_; rintro v ρ' L' hle ⟨rfl, rfl, rfl⟩ <;> (try simp only [kM, kN, kO, hx])) | (refine Zc (.tmp 34) ?_; refine qC rfl rfl (Yd _ _) ?_; rintro v ρ' L' hle ⟨rfl, rfl, rfl⟩ <;> (try simp only [kM, kN, kO])) | (refine Zc (.tmp 41) ?_; refine qC rfl rfl (Yd _ _) ?_; rintro v ρ' L' hle ⟨rfl, rfl, rfl⟩ <;> (try simp only [kM, kN, kO])) | (refine Zj ?_; try intro _)) <;> ((try simp only [kM, kN, kO]); refine Za ?_; refine Zl ?_))))
      all_goals (refine rPk 6 ?_; refine ZO 7 ?_; (first | refine Zd 8 ?_ | refine Zb 8 ?_ | refine Yk 8 ?_); (first | refine Zd 9 ?_ | refine Zb 9 ?_ | refine wCm 9 ?_); (first | refine Zd 10 ?_ | refine Zb 10 ?_ | refine Yk 10 ?_); (first | refine Zd 11 ?_ | refine Zb 11 ?_ | refine Yk 11 ?_); (first | refine Zd 12 ?_ | refine Zb 12 ?_ | refine Yk 12 ?_); (first | refine Zd 13 ?_ | refine Zb 13 ?_ | refine Yk 13 ?_); (first | refine Zd 14 ?_ | refine Zb 14 ?_ | refine wSb 14 ?_); (first | refine Zd 15 ?_ | refine Zb 15 ?_ | refine wIa 15 ?_); (first | refine Zd 16 ?_ | refine Zb 16 ?_ | refine wLd 16 ?_); (first | refine Zd 18 ?_ | refine Zb 18 ?_ | refine Yk 18 ?_); (first | refine Zd 19 ?_ | refine Zb 19 ?_ | refine wLd 19 ?_))
      all_goals (first | refine Zd 17 ?_ | refine Zb 17 ?_ | (refine Zm (i := 17) ?_; ((try refine Zk ?_); (first | (refine Zc (.tmp 25) ?_; refine qC rfl rfl (XE _ _ _) ?_; rintro v ρ' L' hle ⟨rfl, rfl, rfl⟩ <;> (try simp only [kM, kN, kO, hx])) | (refine Zc (.tmp 34) ?_; refine qC rfl rfl (Yd _ _) ?_; rintro v ρ' L' hle ⟨rfl, rfl, rfl⟩ <;> (try simp only [kM, kN, kO])) | (refine Zc (.tmp 41) ?_; refine qC rfl rfl (Yd _ _) ?_; rintro v ρ' L' hle ⟨rfl, rfl, rfl⟩ <;> (try simp only [kM, kN, kO])) | (refine Zj ?_; try intro _)) <;> ((try simp only [kM, kN, kO]); refine Za ?_; refine Zl ?_))))
      all_goals (first | refine Zd 20 ?_ | refine Zb 20 ?_ | (refine Zm (i := 20) ?_; ((try refine Zk ?_); (first | (refine Zc (.tmp 25) ?_; refine qC rfl rfl (XE _ _ _) ?_; rintro v ρ' L' hle ⟨rfl, rfl, rfl⟩ <;> (try simp only [kM, kN, kO, hx])) | (refine Zc (.tmp 34) ?_; refine qC rfl rfl (Yd _ _) ?_; rintro v ρ' L' hle ⟨rfl, rfl, rfl⟩ <;> (try simp only [kM, kN, kO])) | (refine Zc (.tmp 41) ?_; refine qC rfl rfl (Yd _ _) ?_; rintro v ρ' L' hle ⟨rfl, rfl, rfl⟩ <;> (try simp only [kM, kN, kO])) | (refine Zj ?_; try intro _)) <;> ((try simp only [kM, kN, kO]); refine Za ?_; refine Zl ?_))))
      all_goals (first | refine Zd 21 ?_ | refine Zb 21 ?_ | (refine Zm (i := 21) ?_; ((try refine Zk ?_); (first | (refine Zc (.func 252) ?_; refine qC rfl rfl (XV _ _ _ _ _) ?_; rintro v ρ' L' hle ⟨rfl, rfl, rfl⟩ <;> (try simp only [kM, kN, kO])) | (refine Zj ?_; try intro _)) <;> ((try simp only [kM, kN, kO]); refine Za ?_; refine Zl ?_))))
      all_goals (refine ZN ?_; (first | refine Zd 22 ?_ | refine Zb 22 ?_ | refine wCm 22 ?_); (first | refine Zd 23 ?_ | refine Zb 23 ?_ | refine wPk 23 ?_); refine rPk 24 ?_; refine rAs 25 ?_; refine ZI ?_)
      all_goals (repeat' (first | (refine Zg ?_; first | (refine Zf ?_; refine qQ ?_) | refine Zj ?_) | refine Za ?_ | (refine Zh ?_; refine Zu ?_) | (refine Zi ?_; refine Zv ?_) | intro _))
      all_goals exact qE ⟨rfl, rfl, rfl⟩
 ·have hk2 : k = n := by omega
  subst hk2
  repeat' (first | (refine Zg ?_; first | (refine Zf ?_; refine qQ ?_) | refine Zj ?_) | refine Za ?_ | (refine Zh ?_; refine Zu ?_) | (refine Zi ?_; refine Zv ?_) | intro _)
  exact qE ⟨rfl, rfl, rfl⟩
structure MetOk (es : List MapEntry) (ps : List Int) : Prop where
 keys : Yg .i64 es
 get : ∀ p, YE es p = if p ∈ ps then some (.bool true) else none
theorem MetOk.nil : MetOk [] [] := ⟨by intro e he; simp at he, fun p => by simp [YE]⟩
def kidOk (i : Nat) (ps : List Int) (k : Kid) : Bool := decide (k.page ∉ ps ∧ 0 < k.page ∧ k.page < 64 ∧ (0 ≤ k.t ∧ k.t < 3) ∧ (0 < i ∨ (k.t = 0 ∧ k.id = 0)))
theorem kidV_len (r : Kid) : (XQ r).length = 3 := rfl
theorem ZW (ρ : Hp) (r : Kid) : Spec Tryz.prog 227 [.agg ⟨XQ r⟩] ρ [] (fun v ρ' L' => v = .agg ⟨keyV r.t r.id⟩ ∧ ρ' = ρ ∧ L' = []) := by
 refine Ze Tryz.func227 rfl rfl rfl fun u R => ?_
 simp only [Zt, List.cons_append, List.nil_append]
 repeat' (first | (refine Zg ?_; first | (refine Zf ?_; refine qQ ?_) | refine Zj ?_) | refine Za ?_ | (refine Zh ?_; refine Zu ?_) | (refine Zi ?_; refine Zv ?_) | intro _)
 exact qE ⟨rfl, rfl, rfl⟩
abbrev metL (bx mb : Nat) (es : List MapEntry) (ck : Nat) : SH := [[(bx, .cells ⟨[.map (some mb)]⟩ 69 (0, 0))], [(mb, .map ⟨es⟩ ck)]]
theorem Xm (ρ : Hp) (bx mb : Nat) (es : List MapEntry) (ck : Nat) (ps : List Int) (hm : MetOk es ps) (i : Nat) (k : Kid) : Spec Tryz.prog 228 [.int .i64 i, .agg ⟨XQ k⟩, .pointer (some ⟨bx, 0, none⟩)] ρ (metL bx mb es ck)
  (fun v ρ' L' => v = .bool (kidOk i ps k) ∧ ρ' = ρ ∧ ∃ es' ck', MetOk es' (k.page :: ps) ∧ L' = metL bx mb es' ck') := by
 obtain ⟨t, id, page⟩ := k
 have hes := hm.keys
 have hg := hm.get page
 dsimp only at hg ⊢
 generalize hq : kidOk i ps ⟨t, id, page⟩ = q
 have hfin : ∀ es', Yg .i64 es' → (∀ j, YE es' j = if j = page then some (.bool true) else YE es j) → MetOk es' (page :: ps) := fun es' h1 h2 => ⟨h1, fun p => by
  rw [h2 p, hm.get p]
  by_cases e : p = page <;> simp [e]⟩
 refine Ze Tryz.func228 rfl rfl rfl fun u R => ?_
 simp only [Zt, List.cons_append, List.nil_append]
 by_cases hp : page ∈ ps
 ·rw [if_pos hp] at hg
  have hq' : q = false := by rw [← hq]; exact decide_eq_false (fun h => h.1 hp)
  subst hq'
  repeat' (first | (refine Xv rfl rfl rfl hes (fun es' ck' h1 h2 => ?_)) | (refine Zg ?_; first | (refine Zf ?_; refine qQ ?_) | refine Zj ?_) | refine Za ?_ | (refine Zh ?_; refine Zu ?_) | (refine Zi ?_; refine Zv ?_) | intro _)
  exact qE ⟨rfl, rfl, es', ck', hfin es' h1 h2, rfl⟩
 ·rw [if_neg hp] at hg
  by_cases hp0 : 0 < page
  ·by_cases hp6 : page < 64
   ·by_cases ht : 0 ≤ t ∧ t < 3
    ·have hd : decide (0 ≤ t ∧ t < 3) = true := decide_eq_true ht
     by_cases hi : 0 < i
     ·have hq' : q = true := by rw [← hq]; exact decide_eq_true ⟨hp, hp0, hp6, ht, .inl hi⟩
      subst hq'
      repeat' (first | (refine Xv rfl rfl rfl hes (fun es' ck' h1 h2 => ?_)) | (refine Zc (.func 229) ?_; refine qC rfl rfl (WA _ _) ?_; rintro v ρ' L' hle ⟨rfl, rfl, rfl⟩ <;> (try simp only [kM, kN, kO, hd])) | (refine Zg ?_; first | (refine Zf ?_; refine qQ ?_) | refine Zj ?_) | refine Za ?_ | (refine Zh ?_; refine Zu ?_) | (refine Zi ?_; refine Zv ?_) | intro _)
      exact qE ⟨rfl, rfl, es', ck', hfin es' h1 h2, rfl⟩
     ·by_cases hz : t = 0 ∧ id = 0
      ·have hq' : q = true := by rw [← hq]; exact decide_eq_true ⟨hp, hp0, hp6, ht, .inr hz⟩
       subst hq'
       obtain ⟨rfl, rfl⟩ := hz
       repeat' (first | (refine Xv rfl rfl rfl hes (fun es' ck' h1 h2 => ?_)) | (refine Zc (.func 229) ?_; refine qC rfl rfl (WA _ _) ?_; rintro v ρ' L' hle ⟨rfl, rfl, rfl⟩ <;> (try simp only [kM, kN, kO, hd])) | (refine Zg ?_; first | (refine Zf ?_; refine qQ ?_) | refine Zj ?_) | refine Za ?_ | (refine Zh ?_; refine Zu ?_) | (refine Zi ?_; refine Zv ?_) | intro _)
       exact qE ⟨rfl, rfl, es', ck', hfin es' h1 h2, rfl⟩
      ·have hq' : q = false := by rw [← hq]; exact decide_eq_false (fun h => h.2.2.2.2.elim hi hz)
       subst hq'
       have hk : ((t == 0) && (((id : Int) == 0) && true)) = false := by
        simp; intro h; exact fun h' => hz ⟨h, by omega⟩
       repeat' (first | (refine Xv rfl rfl rfl hes (fun es' ck' h1 h2 => ?_)) | (refine Zc (.func 229) ?_; refine qC rfl rfl (WA _ _) ?_; rintro v ρ' L' hle ⟨rfl, rfl, rfl⟩ <;> (try simp only [kM, kN, kO, hd])) | (refine Zg ?_; first | (refine Zf ?_; refine qQ ?_) | refine Zj ?_) | refine Za ?_ | (refine Zh ?_; refine Zu ?_) | (refine Zi ?_; refine Zv ?_) | intro _)
       exact qE ⟨by first | rfl | exact congrArg Value.bool hk, rfl, es', ck', hfin es' h1 h2, rfl⟩
    ·have hd : decide (0 ≤ t ∧ t < 3) = false := decide_eq_false ht
     have hq' : q = false := by rw [← hq]; exact decide_eq_false (fun h => ht h.2.2.2.1)
     subst hq'
     repeat' (first | (refine Xv rfl rfl rfl hes (fun es' ck' h1 h2 => ?_)) | (refine Zc (.func 229) ?_; refine qC rfl rfl (WA _ _) ?_; rintro v ρ' L' hle ⟨rfl, rfl, rfl⟩ <;> (try simp only [kM, kN, kO, hd])) | (refine Zg ?_; first | (refine Zf ?_; refine qQ ?_) | refine Zj ?_) | refine Za ?_ | (refine Zh ?_; refine Zu ?_) | (refine Zi ?_; refine Zv ?_) | intro _)
     exact qE ⟨rfl, rfl, es', ck', hfin es' h1 h2, rfl⟩
   ·have hq' : q = false := by rw [← hq]; exact decide_eq_false (fun h => hp6 h.2.2.1)
    subst hq'
    repeat' (first | (refine Xv rfl rfl rfl hes (fun es' ck' h1 h2 => ?_)) | (refine Zg ?_; first | (refine Zf ?_; refine qQ ?_) | refine Zj ?_) | refine Za ?_ | (refine Zh ?_; refine Zu ?_) | (refine Zi ?_; refine Zv ?_) | intro _)
    exact qE ⟨rfl, rfl, es', ck', hfin es' h1 h2, rfl⟩
  ·have hq' : q = false := by rw [← hq]; exact decide_eq_false (fun h => hp0 h.2.1)
   subst hq'
   repeat' (first | (refine Xv rfl rfl rfl hes (fun es' ck' h1 h2 => ?_)) | (refine Zg ?_; first | (refine Zf ?_; refine qQ ?_) | refine Zj ?_) | refine Za ?_ | (refine Zh ?_; refine Zu ?_) | (refine Zi ?_; refine Zv ?_) | intro _)
   exact qE ⟨rfl, rfl, es', ck', hfin es' h1 h2, rfl⟩
def psTo (l : List Kid) (k : Nat) : List Int := ((l.take k).map Kid.page).reverse
theorem psTo_succ {l : List Kid} {k : Nat} (h : k < l.length) : psTo l (k + 1) = l[k].page :: psTo l k := by
 unfold psTo; rw [List.take_succ_eq_append_getElem h, List.map_append, List.reverse_append]; rfl
def ltK (y x : Kid) : Bool := decide (cmpK y.t y.id x.t x.id < 0)
def kidsOk (l : List Kid) : Bool := Yp 4 (fun i k => kidOk i (psTo l i) k) ltK l l.length
theorem risesKid_spec (ρ : Hp) (a : Option Addr) (n c : Nat) (l : List Kid) (h : AIn ρ 3 XQ a n l) (hn : n ≤ 1000000) (bx mb ck0 : Nat) :
  Spec Tryz.prog 226 [.slice a n c, .int .i64 4, .func (.func 227) ⟨[]⟩ ⟨[]⟩, .func (.func 228) ⟨[]⟩ ⟨[.pointer (some ⟨bx, 0, none⟩)]⟩] ρ (metL bx mb [] ck0) (fun v ρ' L' => v = .bool (kidsOk l) ∧ ρ' = ρ ∧ L' = []) := by
 have hl := h.len
 unfold kidsOk
 rw [hl]
 refine Ze Tryz.func226 rfl rfl rfl fun u R => ?_
 simp only [Zt, List.cons_append, List.nil_append]
 generalize hr : (fun (i : Nat) (k : Kid) => kidOk i (psTo l i) k) = rt
 repeat' (first | (refine Zg ?_; first | (refine Zf ?_; refine qQ ?_) | refine Zj ?_) | refine Za ?_ | (refine Zh ?_; refine Zu ?_) | (refine Zi ?_; refine Zv ?_) | intro _)
 have e0 : decide ((n : Int) ≤ 4) = Yp 4 rt ltK l 0 := by
  rw [Yp]; simp [hl]; omega
 rw [e0]
 refine ZH [(0, _), (2, _), (3, _), (8, _), (16, _), (17, _)] (fun (ζ : (Nat) × (List MapEntry) × (Nat)) => [(18, .int .i64 ζ.1), (9, .bool (Yp 4 rt ltK l ζ.1))]) (fun (ζ : (Nat) × (List MapEntry) × (Nat)) => ρ) (fun (ζ : (Nat) × (List MapEntry) × (Nat)) => metL bx mb ζ.2.1 ζ.2.2) (fun (ζ : (Nat) × (List MapEntry) × (Nat)) => ζ.1 ≤ n ∧ MetOk ζ.2.1 (psTo l ζ.1)) (fun (ζ : (Nat) × (List MapEntry) × (Nat)) => n - ζ.1) ((0, [], ck0)) (⟨Nat.zero_le _, MetOk.nil⟩) Zo Zo rfl tk ?_
 rintro ⟨k, es, ck⟩ hI
 try simp only [List.cons_append, List.nil_append, List.append_assoc, List.append_eq] at hI ⊢
 try dsimp only at hI ⊢
 obtain ⟨hI, hm⟩ := hI
 by_cases hlt : k < n
 ·obtain ⟨b, off, C, T, fr, rfl, hb, hfit, hc⟩ := h.get (show k < l.length by omega)
  have hs := Vi (most := 4) (right := rt) (lt := ltK) (show k < l.length by omega)
  have hfin := fun (e : Yp 4 rt ltK l (k + 1) = false) => WP e (show k + 1 ≤ n by omega)
  have hps := psTo_succ (show k < l.length by omega)
  have hrk : rt k l[k] = kidOk k (psTo l k) l[k] := by rw [← hr]
  cases hok : Yp 4 rt ltK l k
  ·rw [hok, Bool.false_and] at hs
   rw [hfin hs]
   generalize l[k] = x at *
   repeat' (first | (refine Zg ?_; first | (refine Zf ?_; refine qQ ?_) | refine Zj ?_) | refine Za ?_ | (refine Zh ?_; refine Zu ?_) | (refine Zi ?_; refine Zv ?_) | intro _)
   rename_i b11
   refine Zz (Zr _ _ ([[(b11, .cells ⟨XQ x⟩ 149 (0, 0))]])) (Zy (hT := tk) (Hp.le_refl _)) ?_
   all_goals (refine ZO 0 ?_; refine ZO 1 ?_; (first | refine Zd 2 ?_ | refine Zb 2 ?_ | refine Yk 2 ?_); (first | refine Zd 3 ?_ | refine Zb 3 ?_ | refine Yk 3 ?_); (first | refine Zd 4 ?_ | refine Zb 4 ?_ | refine wLd 4 ?_))
   all_goals (first | refine Zd 5 ?_ | refine Zb 5 ?_ | (refine Zm (i := 5) ?_; ((try refine Zk ?_); (first | (refine Zj ?_; try intro _)) <;> ((try simp only [kM, kN, kO]); refine Za ?_; refine Zl ?_))))
   all_goals (refine rPk 6 ?_; refine ZO 7 ?_; (first | refine Zd 8 ?_ | refine Zb 8 ?_ | refine Yk 8 ?_); (first | refine Zd 9 ?_ | refine Zb 9 ?_ | refine wCm 9 ?_); (first | refine Zd 10 ?_ | refine Zb 10 ?_ | refine Yk 10 ?_); (first | refine Zd 11 ?_ | refine Zb 11 ?_ | refine Yk 11 ?_); (first | refine Zd 12 ?_ | refine Zb 12 ?_ | refine Yk 12 ?_); (first | refine Zd 13 ?_ | refine Zb 13 ?_ | refine Yk 13 ?_); (first | refine Zd 14 ?_ | refine Zb 14 ?_ | refine wSb 14 ?_); (first | refine Zd 15 ?_ | refine Zb 15 ?_ | refine wIa 15 ?_); (first | refine Zd 16 ?_ | refine Zb 16 ?_ | refine wLd 16 ?_); (first | refine Zd 18 ?_ | refine Zb 18 ?_ | refine Yk 18 ?_); (first | refine Zd 19 ?_ | refine Zb 19 ?_ | refine wLd 19 ?_))
   all_goals (first | refine Zd 17 ?_ | refine Zb 17 ?_ | (refine Zm (i := 17) ?_; ((try refine Zk ?_); (first | (refine Zj ?_; try intro _)) <;> ((try simp only [kM, kN, kO]); refine Za ?_; refine Zl ?_))))
   all_goals (first | refine Zd 20 ?_ | refine Zb 20 ?_ | (refine Zm (i := 20) ?_; ((try refine Zk ?_); (first | (refine Zj ?_; try intro _)) <;> ((try simp only [kM, kN, kO]); refine Za ?_; refine Zl ?_))))
   all_goals (first | refine Zd 21 ?_ | refine Zb 21 ?_ | (refine Zm (i := 21) ?_; ((try refine Zk ?_); (first | (refine Zj ?_; try intro _)) <;> ((try simp only [kM, kN, kO]); refine Za ?_; refine Zl ?_))))
   all_goals (refine ZN ?_; (first | refine Zd 22 ?_ | refine Zb 22 ?_ | refine wCm 22 ?_); (first | refine Zd 23 ?_ | refine Zb 23 ?_ | refine wPk 23 ?_); refine rPk 24 ?_; refine rAs 25 ?_; refine ZI ?_)
   repeat' (first | (refine Zg ?_; first | (refine Zf ?_; refine qQ ?_) | refine Zj ?_) | refine Za ?_ | (refine Zh ?_; refine Zu ?_) | (refine Zi ?_; refine Zv ?_) | intro _)
   exact qE ⟨rfl, rfl, rfl⟩
  ·rw [hok, Bool.true_and, hrk] at hs
   cases hx : kidOk k (psTo l k) l[k]
   ·rw [hx, Bool.false_and] at hs
    rw [hfin hs]
    generalize l[k] = x at *
    repeat' (first | (refine Zg ?_; first | (refine Zf ?_; refine qQ ?_) | refine Zj ?_) | refine Za ?_ | (refine Zh ?_; refine Zu ?_) | (refine Zi ?_; refine Zv ?_) | intro _)
    rename_i b11
    refine Zz (Zr _ _ ([[(b11, .cells ⟨XQ x⟩ 149 (0, 0))]])) (Zy (hT := tk) (Hp.le_refl _)) ?_
    all_goals (refine ZO 0 ?_; refine ZO 1 ?_; (first | refine Zd 2 ?_ | refine Zb 2 ?_ | refine Yk 2 ?_); (first | refine Zd 3 ?_ | refine Zb 3 ?_ | refine Yk 3 ?_); (first | refine Zd 4 ?_ | refine Zb 4 ?_ | refine wLd 4 ?_))
    all_goals (first | refine Zd 5 ?_ | refine Zb 5 ?_ | (refine Zm (i := 5) ?_; ((try refine Zk ?_); (first | (refine Zc (.tmp 25) ?_; refine qC rfl rfl (Xm _ bx mb es ck _ hm k x) ?_; rintro v ρ' L' hle ⟨rfl, rfl, es', ck', hm', rfl⟩ <;> (try simp only [kM, kN, kO, hx])) | (refine Zc (.tmp 34) ?_; refine qC rfl rfl (ZW _ _) ?_; rintro v ρ' L' hle ⟨rfl, rfl, rfl⟩ <;> (try simp only [kM, kN, kO])) | (refine Zc (.tmp 41) ?_; refine qC rfl rfl (ZW _ _) ?_; rintro v ρ' L' hle ⟨rfl, rfl, rfl⟩ <;> (try simp only [kM, kN, kO])) | (refine Zj ?_; try intro _)) <;> ((try simp only [kM, kN, kO]); refine Za ?_; refine Zl ?_))))
    all_goals (refine rPk 6 ?_; refine ZO 7 ?_; (first | refine Zd 8 ?_ | refine Zb 8 ?_ | refine Yk 8 ?_); (first | refine Zd 9 ?_ | refine Zb 9 ?_ | refine wCm 9 ?_); (first | refine Zd 10 ?_ | refine Zb 10 ?_ | refine Yk 10 ?_); (first | refine Zd 11 ?_ | refine Zb 11 ?_ | refine Yk 11 ?_); (first | refine Zd 12 ?_ | refine Zb 12 ?_ | refine Yk 12 ?_); (first | refine Zd 13 ?_ | refine Zb 13 ?_ | refine Yk 13 ?_); (first | refine Zd 14 ?_ | refine Zb 14 ?_ | refine wSb 14 ?_); (first | refine Zd 15 ?_ | refine Zb 15 ?_ | refine wIa 15 ?_); (first | refine Zd 16 ?_ | refine Zb 16 ?_ | refine wLd 16 ?_); (first | refine Zd 18 ?_ | refine Zb 18 ?_ | refine Yk 18 ?_); (first | refine Zd 19 ?_ | refine Zb 19 ?_ | refine wLd 19 ?_))
    all_goals (first | refine Zd 17 ?_ | refine Zb 17 ?_ | (refine Zm (i := 17) ?_; ((try refine Zk ?_); (first | (refine Zc (.tmp 25) ?_; refine qC rfl rfl (Xm _ bx mb es ck _ hm k x) ?_; rintro v ρ' L' hle ⟨rfl, rfl, es', ck', hm', rfl⟩ <;> (try simp only [kM, kN, kO, hx])) | (refine Zc (.tmp 34) ?_; refine qC rfl rfl (ZW _ _) ?_; rintro v ρ' L' hle ⟨rfl, rfl, rfl⟩ <;> (try simp only [kM, kN, kO])) | (refine Zc (.tmp 41) ?_; refine qC rfl rfl (ZW _ _) ?_; rintro v ρ' L' hle ⟨rfl, rfl, rfl⟩ <;> (try simp only [kM, kN, kO])) | (refine Zj ?_; try intro _)) <;> ((try simp only [kM, kN, kO]); refine Za ?_; refine Zl ?_))))
    all_goals (first | refine Zd 20 ?_ | refine Zb 20 ?_ | (refine Zm (i := 20) ?_; ((try refine Zk ?_); (first | (refine Zc (.tmp 25) ?_; refine qC rfl rfl (Xm _ bx mb es ck _ hm k x) ?_; rintro v ρ' L' hle ⟨rfl, rfl, es', ck', hm', rfl⟩ <;> (try simp only [kM, kN, kO, hx])) | (refine Zc (.tmp 34) ?_; refine qC rfl rfl (ZW _ _) ?_; rintro v ρ' L' hle ⟨rfl, rfl, rfl⟩ <;> (try simp only [kM, kN, kO])) | (refine Zc (.tmp 41) ?_; refine qC rfl rfl (ZW _ _) ?_; rintro v ρ' L' hle ⟨rfl, rfl, rfl⟩ <;> (try simp only [kM, kN, kO])) | (refine Zj ?_; try intro _)) <;> ((try simp only [kM, kN, kO]); refine Za ?_; refine Zl ?_))))
    all_goals (first | refine Zd 21 ?_ | refine Zb 21 ?_ | (refine Zm (i := 21) ?_; ((try refine Zk ?_); (first | (refine Zc (.func 252) ?_; refine qC rfl rfl (XV _ _ _ _ _) ?_; rintro v ρ' L' hle ⟨rfl, rfl, rfl⟩ <;> (try simp only [kM, kN, kO])) | (refine Zj ?_; try intro _)) <;> ((try simp only [kM, kN, kO]); refine Za ?_; refine Zl ?_))))
    all_goals (refine ZN ?_; (first | refine Zd 22 ?_ | refine Zb 22 ?_ | refine wCm 22 ?_); (first | refine Zd 23 ?_ | refine Zb 23 ?_ | refine wPk 23 ?_); refine rPk 24 ?_; refine rAs 25 ?_; refine ZI ?_)
    repeat' (first | (refine Zg ?_; first | (refine Zf ?_; refine qQ ?_) | refine Zj ?_) | refine Za ?_ | (refine Zh ?_; refine Zu ?_) | (refine Zi ?_; refine Zv ?_) | intro _)
    exact qE ⟨rfl, rfl, rfl⟩
   ·rw [hx, Bool.true_and] at hs
    by_cases hk0 : k = 0
    ·have hs' : Yp 4 rt ltK l (k + 1) = true := by rw [hs]; simp [hk0]
     generalize l[k] = x at *
     repeat' (first | (refine Zg ?_; first | (refine Zf ?_; refine qQ ?_) | refine Zj ?_) | refine Za ?_ | (refine Zh ?_; refine Zu ?_) | (refine Zi ?_; refine Zv ?_) | intro _)
     rename_i b11
     refine Zz (Zr _ _ ([[(b11, .cells ⟨XQ x⟩ 149 (0, 0))]])) (Zy (hT := tk) (Hp.le_refl _)) ?_
     all_goals (refine ZO 0 ?_; refine ZO 1 ?_; (first | refine Zd 2 ?_ | refine Zb 2 ?_ | refine Yk 2 ?_); (first | refine Zd 3 ?_ | refine Zb 3 ?_ | refine Yk 3 ?_); (first | refine Zd 4 ?_ | refine Zb 4 ?_ | refine wLd 4 ?_))
     all_goals (first | refine Zd 5 ?_ | refine Zb 5 ?_ | (refine Zm (i := 5) ?_; ((try refine Zk ?_); (first | (refine Zc (.tmp 25) ?_; refine qC rfl rfl (Xm _ bx mb es ck _ hm k x) ?_; rintro v ρ' L' hle ⟨rfl, rfl, es', ck', hm', rfl⟩ <;> (try simp only [kM, kN, kO, hx])) | (refine Zc (.tmp 34) ?_; refine qC rfl rfl (ZW _ _) ?_; rintro v ρ' L' hle ⟨rfl, rfl, rfl⟩ <;> (try simp only [kM, kN, kO])) | (refine Zc (.tmp 41) ?_; refine qC rfl rfl (ZW _ _) ?_; rintro v ρ' L' hle ⟨rfl, rfl, rfl⟩ <;> (try simp only [kM, kN, kO])) | (refine Zj ?_; try intro _)) <;> ((try simp only [kM, kN, kO]); refine Za ?_; refine Zl ?_))))
     all_goals (refine rPk 6 ?_; refine ZO 7 ?_; (first | refine Zd 8 ?_ | refine Zb 8 ?_ | refine Yk 8 ?_); (first | refine Zd 9 ?_ | refine Zb 9 ?_ | refine wCm 9 ?_); (first | refine Zd 10 ?_ | refine Zb 10 ?_ | refine Yk 10 ?_); (first | refine Zd 11 ?_ | refine Zb 11 ?_ | refine Yk 11 ?_); (first | refine Zd 12 ?_ | refine Zb 12 ?_ | refine Yk 12 ?_); (first | refine Zd 13 ?_ | refine Zb 13 ?_ | refine Yk 13 ?_); (first | refine Zd 14 ?_ | refine Zb 14 ?_ | refine wSb 14 ?_); (first | refine Zd 15 ?_ | refine Zb 15 ?_ | refine wIa 15 ?_); (first | refine Zd 16 ?_ | refine Zb 16 ?_ | refine wLd 16 ?_); (first | refine Zd 18 ?_ | refine Zb 18 ?_ | refine Yk 18 ?_); (first | refine Zd 19 ?_ | refine Zb 19 ?_ | refine wLd 19 ?_))
     all_goals (first | refine Zd 17 ?_ | refine Zb 17 ?_ | (refine Zm (i := 17) ?_; ((try refine Zk ?_); (first | (refine Zc (.tmp 25) ?_; refine qC rfl rfl (Xm _ bx mb es ck _ hm k x) ?_; rintro v ρ' L' hle ⟨rfl, rfl, es', ck', hm', rfl⟩ <;> (try simp only [kM, kN, kO, hx])) | (refine Zc (.tmp 34) ?_; refine qC rfl rfl (ZW _ _) ?_; rintro v ρ' L' hle ⟨rfl, rfl, rfl⟩ <;> (try simp only [kM, kN, kO])) | (refine Zc (.tmp 41) ?_; refine qC rfl rfl (ZW _ _) ?_; rintro v ρ' L' hle ⟨rfl, rfl, rfl⟩ <;> (try simp only [kM, kN, kO])) | (refine Zj ?_; try intro _)) <;> ((try simp only [kM, kN, kO]); refine Za ?_; refine Zl ?_))))
     all_goals (first | refine Zd 20 ?_ | refine Zb 20 ?_ | (refine Zm (i := 20) ?_; ((try refine Zk ?_); (first | (refine Zc (.tmp 25) ?_; refine qC rfl rfl (Xm _ bx mb es ck _ hm k x) ?_; rintro v ρ' L' hle ⟨rfl, rfl, es', ck', hm', rfl⟩ <;> (try simp only [kM, kN, kO, hx])) | (refine Zc (.tmp 34) ?_; refine qC rfl rfl (ZW _ _) ?_; rintro v ρ' L' hle ⟨rfl, rfl, rfl⟩ <;> (try simp only [kM, kN, kO])) | (refine Zc (.tmp 41) ?_; refine qC rfl rfl (ZW _ _) ?_; rintro v ρ' L' hle ⟨rfl, rfl, rfl⟩ <;> (try simp only [kM, kN, kO])) | (refine Zj ?_; try intro _)) <;> ((try simp only [kM, kN, kO]); refine Za ?_; refine Zl ?_))))
     all_goals (first | refine Zd 21 ?_ | refine Zb 21 ?_ | (refine Zm (i := 21) ?_; ((try refine Zk ?_); (first | (refine Zc (.func 252) ?_; refine qC rfl rfl (XV _ _ _ _ _) ?_; rintro v ρ' L' hle ⟨rfl, rfl, rfl⟩ <;> (try simp only [kM, kN, kO])) | (refine Zj ?_; try intro _)) <;> ((try simp only [kM, kN, kO]); refine Za ?_; refine Zl ?_))))
     all_goals (refine ZN ?_; (first | refine Zd 22 ?_ | refine Zb 22 ?_ | refine wCm 22 ?_); (first | refine Zd 23 ?_ | refine Zb 23 ?_ | refine wPk 23 ?_); refine rPk 24 ?_; refine rAs 25 ?_; refine ZI ?_)
     repeat' (first | (refine Zg ?_; first | (refine Zf ?_; refine qQ ?_) | refine Zj ?_) | refine Za ?_ | (refine Zh ?_; refine Zu ?_) | (refine Zi ?_; refine Zv ?_) | intro _)
     rw [← hs']
     refine Zx (k + 1, es', ck') (⟨hlt, by dsimp only; rw [hps]; exact hm'⟩) Zo Zo rfl tk inferInstance (by first | omega | (dsimp only; omega))
    ·have hd : decide (k = 0) = false := decide_eq_false hk0
     obtain ⟨b2, off2, C2, T2, fr2, f1, hb2, hfit2, hc2⟩ := h.get (show k - 1 < l.length by omega)
     cases f1
     rw [hb] at hb2
     cases hb2
     have ek : ((k : Int) - 1).toNat = k - 1 := by omega
     rw [← ek] at hfit2
     have hc3 : List.take 3 (List.drop (off + ((k : Int) - 1).toNat * 3) C) = XQ (l[k - 1]'(by omega)) := by rw [ek]; exact hc2
     clear hc2
     rw [hd, Bool.false_or] at hs
     generalize l[k] = x at *
     generalize l[k - 1]'(by omega) = y at *
     unfold ltK at hs
     by_cases hcm : cmpK y.t y.id x.t x.id < 0
     ·rw [decide_eq_true hcm] at hs
      repeat' (first | (refine Zg ?_; first | (refine Zf ?_; refine qQ ?_) | refine Zj ?_) | refine Za ?_ | (refine Zh ?_; refine Zu ?_) | (refine Zi ?_; refine Zv ?_) | intro _)
      rename_i b11
      refine Zz (Zr _ _ ([[(b11, .cells ⟨XQ x⟩ 149 (0, 0))]])) (Zy (hT := tk) (Hp.le_refl _)) ?_
      all_goals (refine ZO 0 ?_; refine ZO 1 ?_; (first | refine Zd 2 ?_ | refine Zb 2 ?_ | refine Yk 2 ?_); (first | refine Zd 3 ?_ | refine Zb 3 ?_ | refine Yk 3 ?_); (first | refine Zd 4 ?_ | refine Zb 4 ?_ | refine wLd 4 ?_))
      all_goals (first | refine Zd 5 ?_ | refine Zb 5 ?_ | (refine Zm (i := 5) ?_; ((try refine Zk ?_); (first | (refine Zc (.tmp 25) ?_; refine qC rfl rfl (Xm _ bx mb es ck _ hm k x) ?_; rintro v ρ' L' hle ⟨rfl, rfl, es', ck', hm', rfl⟩ <;> (try simp only [kM, kN, kO, hx])) | (refine Zc (.tmp 34) ?_; refine qC rfl rfl (ZW _ _) ?_; rintro v ρ' L' hle ⟨rfl, rfl, rfl⟩ <;> (try simp only [kM, kN, kO])) | (refine Zc (.tmp 41) ?_; refine qC rfl rfl (ZW _ _) ?_; rintro v ρ' L' hle ⟨rfl, rfl, rfl⟩ <;> (try simp only [kM, kN, kO])) | (refine Zj ?_; try intro _)) <;> ((try simp only [kM, kN, kO]); refine Za ?_; refine Zl ?_))))
      all_goals (refine rPk 6 ?_; refine ZO 7 ?_; (first | refine Zd 8 ?_ | refine Zb 8 ?_ | refine Yk 8 ?_); (first | refine Zd 9 ?_ | refine Zb 9 ?_ | refine wCm 9 ?_); (first | refine Zd 10 ?_ | refine Zb 10 ?_ | refine Yk 10 ?_); (first | refine Zd 11 ?_ | refine Zb 11 ?_ | refine Yk 11 ?_); (first | refine Zd 12 ?_ | refine Zb 12 ?_ | refine Yk 12 ?_); (first | refine Zd 13 ?_ | refine Zb 13 ?_ | refine Yk 13 ?_); (first | refine Zd 14 ?_ | refine Zb 14 ?_ | refine wSb 14 ?_); (first | refine Zd 15 ?_ | refine Zb 15 ?_ | refine wIa 15 ?_); (first | refine Zd 16 ?_ | refine Zb 16 ?_ | refine wLd 16 ?_); (first | refine Zd 18 ?_ | refine Zb 18 ?_ | refine Yk 18 ?_); (first | refine Zd 19 ?_ | refine Zb 19 ?_ | refine wLd 19 ?_))
      all_goals (first | refine Zd 17 ?_ | refine Zb 17 ?_ | (refine Zm (i := 17) ?_; ((try refine Zk ?_); (first | (refine Zc (.tmp 25) ?_; refine qC rfl rfl (Xm _ bx mb es ck _ hm k x) ?_; rintro v ρ' L' hle ⟨rfl, rfl, es', ck', hm', rfl⟩ <;> (try simp only [kM, kN, kO, hx])) | (refine Zc (.tmp 34) ?_; refine qC rfl rfl (ZW _ _) ?_; rintro v ρ' L' hle ⟨rfl, rfl, rfl⟩ <;> (try simp only [kM, kN, kO])) | (refine Zc (.tmp 41) ?_; refine qC rfl rfl (ZW _ _) ?_; rintro v ρ' L' hle ⟨rfl, rfl, rfl⟩ <;> (try simp only [kM, kN, kO])) | (refine Zj ?_; try intro _)) <;> ((try simp only [kM, kN, kO]); refine Za ?_; refine Zl ?_))))
      all_goals (first | refine Zd 20 ?_ | refine Zb 20 ?_ | (refine Zm (i := 20) ?_; ((try refine Zk ?_); (first | (refine Zc (.tmp 25) ?_; refine qC rfl rfl (Xm _ bx mb es ck _ hm k x) ?_; rintro v ρ' L' hle ⟨rfl, rfl, es', ck', hm', rfl⟩ <;> (try simp only [kM, kN, kO, hx])) | (refine Zc (.tmp 34) ?_; refine qC rfl rfl (ZW _ _) ?_; rintro v ρ' L' hle ⟨rfl, rfl, rfl⟩ <;> (try simp only [kM, kN, kO])) | (refine Zc (.tmp 41) ?_; refine qC rfl rfl (ZW _ _) ?_; rintro v ρ' L' hle ⟨rfl, rfl, rfl⟩ <;> (try simp only [kM, kN, kO])) | (refine Zj ?_; try intro _)) <;> ((try simp only [kM, kN, kO]); refine Za ?_; refine Zl ?_))))
      all_goals (first | refine Zd 21 ?_ | refine Zb 21 ?_ | (refine Zm (i := 21) ?_; ((try refine Zk ?_); (first | (refine Zc (.func 252) ?_; refine qC rfl rfl (XV _ _ _ _ _) ?_; rintro v ρ' L' hle ⟨rfl, rfl, rfl⟩ <;> (try simp only [kM, kN, kO])) | (refine Zj ?_; try intro _)) <;> ((try simp only [kM, kN, kO]); refine Za ?_; refine Zl ?_))))
      all_goals (refine ZN ?_; (first | refine Zd 22 ?_ | refine Zb 22 ?_ | refine wCm 22 ?_); (first | refine Zd 23 ?_ | refine Zb 23 ?_ | refine wPk 23 ?_); refine rPk 24 ?_; refine rAs 25 ?_; refine ZI ?_)
      all_goals (repeat' (first | (refine Zg ?_; first | (refine Zf ?_; refine qQ ?_) | refine Zj ?_) | refine Za ?_ | (refine Zh ?_; refine Zu ?_) | (refine Zi ?_; refine Zv ?_) | intro _))
      all_goals rw [← show Yp 4 rt ltK l (k + 1) = true from hs]
      all_goals refine Zx (k + 1, es', ck') (⟨hlt, by dsimp only; rw [hps]; exact hm'⟩) Zo Zo rfl tk inferInstance (by first | omega | (dsimp only; omega))
     ·rw [decide_eq_false hcm] at hs
      rw [hfin hs]
      repeat' (first | (refine Zg ?_; first | (refine Zf ?_; refine qQ ?_) | refine Zj ?_) | refine Za ?_ | (refine Zh ?_; refine Zu ?_) | (refine Zi ?_; refine Zv ?_) | intro _)
      rename_i b11
      refine Zz (Zr _ _ ([[(b11, .cells ⟨XQ x⟩ 149 (0, 0))]])) (Zy (hT := tk) (Hp.le_refl _)) ?_
      all_goals (refine ZO 0 ?_; refine ZO 1 ?_; (first | refine Zd 2 ?_ | refine Zb 2 ?_ | refine Yk 2 ?_); (first | refine Zd 3 ?_ | refine Zb 3 ?_ | refine Yk 3 ?_); (first | refine Zd 4 ?_ | refine Zb 4 ?_ | refine wLd 4 ?_))
      all_goals (first | refine Zd 5 ?_ | refine Zb 5 ?_ | (refine Zm (i := 5) ?_; ((try refine Zk ?_); (first | (refine Zc (.tmp 25) ?_; refine qC rfl rfl (Xm _ bx mb es ck _ hm k x) ?_; rintro v ρ' L' hle ⟨rfl, rfl, es', ck', hm', rfl⟩ <;> (try simp only [kM, kN, kO, hx])) | (refine Zc (.tmp 34) ?_; refine qC rfl rfl (ZW _ _) ?_; rintro v ρ' L' hle ⟨rfl, rfl, rfl⟩ <;> (try simp only [kM, kN, kO])) | (refine Zc (.tmp 41) ?_; refine qC rfl rfl (ZW _ _) ?_; rintro v ρ' L' hle ⟨rfl, rfl, rfl⟩ <;> (try simp only [kM, kN, kO])) | (refine Zj ?_; try intro _)) <;> ((try simp only [kM, kN, kO]); refine Za ?_; refine Zl ?_))))
      all_goals (refine rPk 6 ?_; refine ZO 7 ?_; (first | refine Zd 8 ?_ | refine Zb 8 ?_ | refine Yk 8 ?_); (first | refine Zd 9 ?_ | refine Zb 9 ?_ | refine wCm 9 ?_); (first | refine Zd 10 ?_ | refine Zb 10 ?_ | refine Yk 10 ?_); (first | refine Zd 11 ?_ | refine Zb 11 ?_ | refine Yk 11 ?_); (first | refine Zd 12 ?_ | refine Zb 12 ?_ | refine Yk 12 ?_); (first | refine Zd 13 ?_ | refine Zb 13 ?_ | refine Yk 13 ?_); (first | refine Zd 14 ?_ | refine Zb 14 ?_ | refine wSb 14 ?_); (first | refine Zd 15 ?_ | refine Zb 15 ?_ | refine wIa 15 ?_); (first | refine Zd 16 ?_ | refine Zb 16 ?_ | refine wLd 16 ?_); (first | refine Zd 18 ?_ | refine Zb 18 ?_ | refine Yk 18 ?_); (first | refine Zd 19 ?_ | refine Zb 19 ?_ | refine wLd 19 ?_))
      all_goals (first | refine Zd 17 ?_ | refine Zb 17 ?_ | (refine Zm (i := 17) ?_; ((try refine Zk ?_); (first | (refine Zc (.tmp 25) ?_; refine qC rfl rfl (Xm _ bx mb es ck _ hm k x) ?_; rintro v ρ' L' hle ⟨rfl, rfl, es', ck', hm', rfl⟩ <;> (try simp only [kM, kN, kO, hx])) | (refine Zc (.tmp 34) ?_; refine qC rfl rfl (ZW _ _) ?_; rintro v ρ' L' hle ⟨rfl, rfl, rfl⟩ <;> (try simp only [kM, kN, kO])) | (refine Zc (.tmp 41) ?_; refine qC rfl rfl (ZW _ _) ?_; rintro v ρ' L' hle ⟨rfl, rfl, rfl⟩ <;> (try simp only [kM, kN, kO])) | (refine Zj ?_; try intro _)) <;> ((try simp only [kM, kN, kO]); refine Za ?_; refine Zl ?_))))
      all_goals (first | refine Zd 20 ?_ | refine Zb 20 ?_ | (refine Zm (i := 20) ?_; ((try refine Zk ?_); (first | (refine Zc (.tmp 25) ?_; refine qC rfl rfl (Xm _ bx mb es ck _ hm k x) ?_; rintro v ρ' L' hle ⟨rfl, rfl, es', ck', hm', rfl⟩ <;> (try simp only [kM, kN, kO, hx])) | (refine Zc (.tmp 34) ?_; refine qC rfl rfl (ZW _ _) ?_; rintro v ρ' L' hle ⟨rfl, rfl, rfl⟩ <;> (try simp only [kM, kN, kO])) | (refine Zc (.tmp 41) ?_; refine qC rfl rfl (ZW _ _) ?_; rintro v ρ' L' hle ⟨rfl, rfl, rfl⟩ <;> (try simp only [kM, kN, kO])) | (refine Zj ?_; try intro _)) <;> ((try simp only [kM, kN, kO]); refine Za ?_; refine Zl ?_))))
      all_goals (first | refine Zd 21 ?_ | refine Zb 21 ?_ | (refine Zm (i := 21) ?_; ((try refine Zk ?_); (first | (refine Zc (.func 252) ?_; refine qC rfl rfl (XV _ _ _ _ _) ?_; rintro v ρ' L' hle ⟨rfl, rfl, rfl⟩ <;> (try simp only [kM, kN, kO])) | (refine Zj ?_; try intro _)) <;> ((try simp only [kM, kN, kO]); refine Za ?_; refine Zl ?_))))
      all_goals (refine ZN ?_; (first | refine Zd 22 ?_ | refine Zb 22 ?_ | refine wCm 22 ?_); (first | refine Zd 23 ?_ | refine Zb 23 ?_ | refine wPk 23 ?_); refine rPk 24 ?_; refine rAs 25 ?_; refine ZI ?_)
      all_goals (repeat' (first | (refine Zg ?_; first | (refine Zf ?_; refine qQ ?_) | refine Zj ?_) | refine Za ?_ | (refine Zh ?_; refine Zu ?_) | (refine Zi ?_; refine Zv ?_) | intro _))
      all_goals exact qE ⟨rfl, rfl, rfl⟩
 ·have hk2 : k = n := by omega
  subst hk2
  repeat' (first | (refine Zg ?_; first | (refine Zf ?_; refine qQ ?_) | refine Zj ?_) | refine Za ?_ | (refine Zh ?_; refine Zu ?_) | (refine Zi ?_; refine Zv ?_) | intro _)
  exact qE ⟨rfl, rfl, rfl⟩
structure CV where
 ra : Option Addr
 rn : Nat
 rc : Nat
 ka : Option Addr
 kn : Nat
 kc : Nat
structure Yb where
 kind : Int
 rows : List Row
 kids : List Kid
deriving DecidableEq
abbrev XF (k : Int) (v : CV) : List Value := [.int .i64 k, .slice v.ra v.rn v.rc, .slice v.ka v.kn v.kc]
structure CIn (ρ : Hp) (v : CV) (rows : List Row) (kids : List Kid) : Prop where
 r : AIn ρ 4 YT v.ra v.rn rows
 k : AIn ρ 3 XQ v.ka v.kn kids
 rb : v.rn ≤ 1000000
 kb : v.kn ≤ 1000000
 rc : v.rn ≤ v.rc
 kc : v.kn ≤ v.kc
theorem CIn.mono {ρ ρ' v rows kids} (h : CIn ρ v rows kids) (hle : ρ.le ρ') : CIn ρ' v rows kids := ⟨h.r.mono hle, h.k.mono hle, h.rb, h.kb, h.rc, h.kc⟩
theorem leafc_spec (ρ : Hp) (a : Option Addr) (n c : Nat) (l : List Row) (h : AIn ρ 4 YT a n l) (hn : n ≤ 1000000) : Spec Tryz.prog 175 [.slice a n c] ρ [] (fun v ρ' L' => v = .bool (rowsOk l) ∧ ρ' = ρ ∧ L' = []) := by
 refine Ze Tryz.func175 rfl rfl rfl fun u R => ?_
 simp only [Zt, List.cons_append, List.nil_append]
 repeat' (first | (refine Zc (.func 222) ?_; refine qC rfl rfl (risesRow_spec _ a n c l h hn) ?_; rintro v ρ' L' hle ⟨rfl, rfl, rfl⟩ <;> (try simp only [kM, kN, kO])) | (refine Zg ?_; first | (refine Zf ?_; refine qQ ?_) | refine Zj ?_) | refine Za ?_ | (refine Zh ?_; refine Zu ?_) | (refine Zi ?_; refine Zv ?_) | intro _)
 exact qE ⟨rfl, rfl, rfl⟩
theorem innerc_spec (ρ : Hp) (a : Option Addr) (n c : Nat) (l : List Kid) (h : AIn ρ 3 XQ a n l) (hn : n ≤ 1000000) : Spec Tryz.prog 176 [.slice a n c] ρ [] (fun v ρ' L' => v = .bool (decide (1 < n) && kidsOk l) ∧ ρ' = ρ ∧ L' = []) := by
 refine Ze Tryz.func176 rfl rfl rfl fun u R => ?_
 simp only [Zt, List.cons_append, List.nil_append]
 by_cases h1 : 1 < n
 ·rw [decide_eq_true h1, Bool.true_and]
  repeat' (first | (refine Zc (.func 226) ?_; refine qC rfl rfl (risesKid_spec _ a n c l h hn _ _ _) ?_; rintro v ρ' L' hle ⟨rfl, rfl, rfl⟩ <;> (try simp only [kM, kN, kO])) | (refine Zg ?_; first | (refine Zf ?_; refine qQ ?_) | refine Zj ?_) | refine Za ?_ | (refine Zh ?_; refine Zu ?_) | (refine Zi ?_; refine Zv ?_) | intro _)
  exact qE ⟨rfl, rfl, rfl⟩
 ·rw [decide_eq_false h1, Bool.false_and]
  repeat' (first | (refine Zg ?_; first | (refine Zf ?_; refine qQ ?_) | refine Zj ?_) | refine Za ?_ | (refine Zh ?_; refine Zu ?_) | (refine Zi ?_; refine Zv ?_) | intro _)
  exact qE ⟨rfl, rfl, rfl⟩
def ZT (c : Yb) : Bool :=
 if c.kind = 0 then decide (c.rows.length + c.kids.length = 0)
 else if c.kind = 1 then decide (c.kids.length = 0) && rowsOk c.rows
 else if c.kind = 2 then decide (c.rows.length = 0) && (decide (1 < c.kids.length) && kidsOk c.kids)
 else false
theorem XN (ρ : Hp) (v : CV) (c : Yb) (h : CIn ρ v c.rows c.kids) : Spec Tryz.prog 118 [.agg ⟨XF c.kind v⟩] ρ [] (fun r ρ' L' => r = .int .i64 (if ZT c then 0 else 160) ∧ ρ' = ρ ∧ L' = []) := by
 obtain ⟨kind, rows, kids⟩ := c
 obtain ⟨ra, rn, rc, ka, kn, kc⟩ := v
 obtain ⟨hr, hk, hrb, hkb, _, _⟩ := h
 dsimp only at hr hk hrb hkb
 have hrl := hr.len
 have hkl := hk.len
 have hrs := leafc_spec ρ ra rn rc rows hr hrb
 have hks := innerc_spec ρ ka kn kc kids hk hkb
 generalize hq : ZT ⟨kind, rows, kids⟩ = q
 unfold ZT at hq
 simp only [hrl, hkl] at hq
 refine Ze Tryz.func118 rfl rfl rfl fun u R => ?_
 simp only [Zt, List.cons_append, List.nil_append]
 by_cases k0 : kind = 0
 ·rw [if_pos k0] at hq
  by_cases hz : rn + kn = 0
  ·rw [decide_eq_true hz] at hq
   subst hq
   repeat' (first | (refine Zg ?_; first | (refine Zf ?_; refine qQ ?_) | refine Zj ?_) | refine Za ?_ | (refine Zh ?_; refine Zu ?_) | (refine Zi ?_; refine Zv ?_) | intro _)
   exact qE ⟨rfl, rfl, rfl⟩
  ·rw [decide_eq_false hz] at hq
   subst hq
   repeat' (first | (refine Zg ?_; first | (refine Zf ?_; refine qQ ?_) | refine Zj ?_) | refine Za ?_ | (refine Zh ?_; refine Zu ?_) | (refine Zi ?_; refine Zv ?_) | intro _)
   exact qE ⟨rfl, rfl, rfl⟩
 ·rw [if_neg k0] at hq
  by_cases k1 : kind = 1
  ·rw [if_pos k1] at hq
   by_cases hz : kn = 0
   ·rw [decide_eq_true hz, Bool.true_and] at hq
    rw [hq] at hrs
    cases q
    all_goals (repeat' (first | (refine Zc (.func 175) ?_; refine qC rfl rfl (hrs) ?_; rintro v ρ' L' hle ⟨rfl, rfl, rfl⟩ <;> (try simp only [kM, kN, kO])) | (refine Zg ?_; first | (refine Zf ?_; refine qQ ?_) | refine Zj ?_) | refine Za ?_ | (refine Zh ?_; refine Zu ?_) | (refine Zi ?_; refine Zv ?_) | intro _))
    all_goals exact qE ⟨rfl, rfl, rfl⟩
   ·rw [decide_eq_false hz, Bool.false_and] at hq
    subst hq
    repeat' (first | (refine Zg ?_; first | (refine Zf ?_; refine qQ ?_) | refine Zj ?_) | refine Za ?_ | (refine Zh ?_; refine Zu ?_) | (refine Zi ?_; refine Zv ?_) | intro _)
    exact qE ⟨rfl, rfl, rfl⟩
  ·rw [if_neg k1] at hq
   by_cases k2 : kind = 2
   ·rw [if_pos k2] at hq
    by_cases hz : rn = 0
    ·rw [decide_eq_true hz, Bool.true_and] at hq
     rw [hq] at hks
     cases q
     all_goals (repeat' (first | (refine Zc (.func 176) ?_; refine qC rfl rfl (hks) ?_; rintro v ρ' L' hle ⟨rfl, rfl, rfl⟩ <;> (try simp only [kM, kN, kO])) | (refine Zg ?_; first | (refine Zf ?_; refine qQ ?_) | refine Zj ?_) | refine Za ?_ | (refine Zh ?_; refine Zu ?_) | (refine Zi ?_; refine Zv ?_) | intro _))
     all_goals exact qE ⟨rfl, rfl, rfl⟩
    ·rw [decide_eq_false hz, Bool.false_and] at hq
     subst hq
     repeat' (first | (refine Zg ?_; first | (refine Zf ?_; refine qQ ?_) | refine Zj ?_) | refine Za ?_ | (refine Zh ?_; refine Zu ?_) | (refine Zi ?_; refine Zv ?_) | intro _)
     exact qE ⟨rfl, rfl, rfl⟩
   ·rw [if_neg k2] at hq
    subst hq
    repeat' (first | (refine Zg ?_; first | (refine Zf ?_; refine qQ ?_) | refine Zj ?_) | refine Za ?_ | (refine Zh ?_; refine Zu ?_) | (refine Zi ?_; refine Zv ?_) | intro _)
    exact qE ⟨rfl, rfl, rfl⟩
def XR {α : Type} (f : List UInt8 → Int → Bool → α × RS3) : Nat → List UInt8 → Int → Bool → List α × RS3
 | 0, l, st, bad => ([], l, st, bad)
 | n + 1, l, st, bad => if !bad && decide (st = 0) then ((f l st bad).1 :: (XR f n (f l st bad).2.1 (f l st bad).2.2.1 (f l st bad).2.2.2).1, (XR f n (f l st bad).2.1 (f l st bad).2.2.1 (f l st bad).2.2.2).2) else ([], l, st, bad)
theorem manyTo_stop {α : Type} {f : List UInt8 → Int → Bool → α × RS3} {n : Nat} {l : List UInt8} {st : Int} {bad : Bool} (h : (!bad && decide (st = 0)) = false) : XR f n l st bad = ([], l, st, bad) := by
 cases n with
 | zero => rfl
 | succ n => rw [XR, h]; rfl
def Xq {α : Type} (f : List UInt8 → Int → Bool → α × RS3) (l : List UInt8) (st : Int) (bad : Bool) : List α × RS3 :=
 XR f (YF 1 l st).1 (YF 1 l st).2.1 (YF 1 l st).2.2 (XP bad (YF 1 l st).2.2 (decide (((YF 1 l st).1 : Int) ≤ 4)))
theorem manyRow_spec (ρ : Hp) (bt br : Nat) (all : Int) (bad : Bool) (vk vr vs : Value) (a : Option Addr) (n c : Nat) (l : List UInt8) (h : SIn ρ ZD a n l) (hc : n ≤ c) (st : Int) :
  Spec Tryz.prog 256 [.pointer (some ⟨bt, 0, none⟩), .int .i64 4, .func (.func 207) ⟨[.pointer (some ⟨bt, 0, none⟩)]⟩ ⟨[]⟩] ρ [tkC bt br all bad vk vr vs, rdC br a n c st]
   (fun v ρ' L' => ρ.le ρ' ∧ ∃ sa sn sc a' n' c', v = .slice sa sn sc ∧ sn ≤ sc ∧ sn ≤ 255 ∧ AIn ρ' 4 YT sa sn (Xq WQ l st bad).1 ∧ SIn ρ' ZD a' n' (Xq WQ l st bad).2.1 ∧ n' ≤ c' ∧ L' = [tkC bt br all (Xq WQ l st bad).2.2.2 vk vr vs, rdC br a' n' c' (Xq WQ l st bad).2.2.1]) := by
 have hn1 := u8_spec ρ br a n c l h hc st
 have hb1 := Vu 1 l st
 generalize hq : Xq WQ l st bad = q
 unfold Xq at hq
 generalize YF 1 l st = r1 at *
 obtain ⟨x1, l1, st1⟩ := r1
 dsimp only at hq hn1 hb1
 have hb255 : x1 < 256 := by simpa using hb1
 generalize hB1 : XP bad st1 (decide ((x1 : Int) ≤ 4)) = b1 at *
 refine Ze Tryz.func256 rfl rfl rfl fun u R => ?_
 simp only [Zt, List.cons_append, List.nil_append]
 repeat' (first | (refine Zc (.func 97) ?_; refine qC rfl rfl (hn1) ?_; rintro v ρ' L' hle ⟨rfl, rfl, a1, n1, c1, h1, hc1, rfl⟩ <;> (try simp only [kM, kN, kO])) | (refine Zc (.func 244) ?_; refine qC rfl rfl (Xz _ bt br all bad vk vr vs a1 n1 c1 st1 (decide ((x1 : Int) ≤ 4))) ?_; rintro v ρ' L' hle ⟨rfl, rfl, rfl⟩ <;> (try simp only [kM, kN, kO, hB1])) | (refine Zg ?_; first | (refine Zf ?_; refine qQ ?_) | refine Zj ?_) | refine Za ?_ | (refine Zh ?_; refine Zu ?_) | (refine Zi ?_; refine Zv ?_) | intro _)
 refine ZH [(0, _), (2, _), (6, _), (7, _)] (fun (ζ : (Nat) × (Hp) × (Value) × (List Value) × (List Row) × (Option Addr) × (Nat) × (Nat) × (List UInt8) × (Int) × (Bool)) => [(9, .int .i64 ζ.1), (8, ζ.2.2.1)]) (fun (ζ : (Nat) × (Hp) × (Value) × (List Value) × (List Row) × (Option Addr) × (Nat) × (Nat) × (List UInt8) × (Int) × (Bool)) => ζ.2.1) (fun (ζ : (Nat) × (Hp) × (Value) × (List Value) × (List Row) × (Option Addr) × (Nat) × (Nat) × (List UInt8) × (Int) × (Bool)) => [Ym ζ.2.2.1 ((ζ.2.2.2.2.1.map YT).flatten) ζ.2.2.2.1 130, tkC bt br all ζ.2.2.2.2.2.2.2.2.2.2 vk vr vs, rdC br ζ.2.2.2.2.2.1 ζ.2.2.2.2.2.2.1 ζ.2.2.2.2.2.2.2.1 ζ.2.2.2.2.2.2.2.2.2.1]) (fun (ζ : (Nat) × (Hp) × (Value) × (List Value) × (List Row) × (Option Addr) × (Nat) × (Nat) × (List UInt8) × (Int) × (Bool)) => ζ.1 ≤ x1 ∧ ρ'.le ζ.2.1 ∧ OwnS ζ.2.2.1 ζ.1 ((ζ.2.2.2.2.1.map YT).flatten) ζ.2.2.2.1 4 ∧ ζ.2.2.2.2.1.length = ζ.1 ∧ SIn ζ.2.1 ZD ζ.2.2.2.2.2.1 ζ.2.2.2.2.2.2.1 ζ.2.2.2.2.2.2.2.2.1 ∧ ζ.2.2.2.2.2.2.1 ≤ ζ.2.2.2.2.2.2.2.1 ∧ q = (ζ.2.2.2.2.1 ++ (XR WQ (x1 - ζ.1) ζ.2.2.2.2.2.2.2.2.1 ζ.2.2.2.2.2.2.2.2.2.1 ζ.2.2.2.2.2.2.2.2.2.2).1, (XR WQ (x1 - ζ.1) ζ.2.2.2.2.2.2.2.2.1 ζ.2.2.2.2.2.2.2.2.2.1 ζ.2.2.2.2.2.2.2.2.2.2).2)) (fun (ζ : (Nat) × (Hp) × (Value) × (List Value) × (List Row) × (Option Addr) × (Nat) × (Nat) × (List UInt8) × (Int) × (Bool)) => x1 - ζ.1) ((0, ρ', .slice none 0 0, [], [], a1, n1, c1, l1, st1, b1)) (⟨Nat.zero_le _, Hp.le_refl _, OwnS.nil 4, rfl, h1, hc1, by simp [hq]⟩) Zo Zo rfl tk ?_
 rintro ⟨i, ρ1, v, sp, acc, a2, n2, c2, l2, st2, bad2⟩ hI
 try simp only [List.cons_append, List.nil_append, List.append_assoc, List.append_eq] at hI ⊢
 try dsimp only at hI ⊢
 obtain ⟨hi, hle1, hown, hal, h2, hc2, hq2⟩ := hI
 obtain ⟨va, vc, rfl, _⟩ := hown.len
 have hg : ∀ x ∈ acc, (YT x).length = 4 := fun x _ => rowV_len x
 by_cases hlt : i < x1
 ·cases hok : (!bad2 && decide (st2 = 0))
  ·rw [manyTo_stop hok] at hq2
   simp only [List.append_nil] at hq2
   subst hq2
   repeat' (first | (refine Zc (.func 247) ?_; refine qC rfl rfl (ok_spec _ bt br all bad2 vk vr vs a2 n2 c2 st2) ?_; rintro v ρ' L' hle ⟨rfl, rfl, rfl⟩ <;> (try simp only [kM, kN, kO, hok])) | (refine Zg ?_; first | (refine Zf ?_; refine qQ ?_) | refine Zj ?_) | refine Za ?_ | (refine Zh ?_; refine Zu ?_) | (refine Zi ?_; refine Zv ?_) | intro _)
   refine Xs (Ym (.slice va i vc) ((acc.map YT).flatten) sp 130) (fun ρ3 hle3 hfz => ?_)
   obtain ⟨sa, sc, e1, hsc, hA⟩ := hown.aIn hal hg hfz
   cases e1
   exact qE ⟨Hp.le_trans hle1 hle3, _, _, _, a2, n2, c2, rfl, hsc, by omega, hA, h2.mono hle3, hc2, rfl⟩
  ·rw [show x1 - i = (x1 - (i + 1)) + 1 by omega, XR, if_pos hok] at hq2
   have hrow := fun ρ h => trow_spec ρ bt br all bad2 vk vr vs a2 n2 c2 l2 h hc2 st2
   generalize WQ l2 st2 bad2 = r at *
   obtain ⟨x, l3, st3, bad3⟩ := r
   dsimp only at hq2 hrow
   repeat' (first | (refine Zc (.func 247) ?_; refine qC rfl rfl (ok_spec _ bt br all bad2 vk vr vs a2 n2 c2 st2) ?_; rintro v ρ' L' hle ⟨rfl, rfl, rfl⟩ <;> (try simp only [kM, kN, kO, hok])) | (refine Zc (.tmp 31) ?_; refine qC rfl rfl (hrow _ h2) ?_; rintro v ρ' L' hle ⟨rfl, hle3, a3, n3, c3, h3, hc3, rfl⟩ <;> (try simp only [kM, kN, kO])) | (refine Zg ?_; first | (refine Zf ?_; refine qQ ?_) | refine Zj ?_) | refine Za ?_ | (refine Zh ?_; refine Zu ?_) | (refine Zi ?_; refine Zv ?_) | intro _)
   refine Yi (css := [YT x]) (sz := 4) rfl rfl rfl rfl (by simp) (by simp) rfl (fun bs => ?_)
   simp only [List.flatten_cons, List.flatten_nil, List.append_nil]
   refine YQ (ys := YT x) (m := 1) rfl rfl hown (hR := by infer_instance) (SrcV.lit) rfl rfl (by decide) rfl (by omega) (by omega) rfl (fun v' sp' hown' => ?_)
   have hm : (acc.map YT).flatten ++ YT x = ((acc ++ [x]).map YT).flatten := by simp
   rw [hm] at hown' ⊢
   repeat' (first | (refine Zg ?_; first | (refine Zf ?_; refine qQ ?_) | refine Zj ?_) | refine Za ?_ | (refine Zh ?_; refine Zu ?_) | (refine Zi ?_; refine Zv ?_) | intro _)
   refine Zx (i + 1, _, v', sp', acc ++ [x], a3, n3, c3, l3, st3, bad3) (⟨hlt, Hp.le_trans hle1 hle3, hown', by simp [hal], h3, hc3, by rw [hq2]; simp⟩) Zo Zo rfl tk inferInstance (by first | omega | (dsimp only; omega))
 ·have hi2 : i = x1 := by omega
  subst hi2
  rw [Nat.sub_self, XR] at hq2
  simp only [List.append_nil] at hq2
  subst hq2
  repeat' (first | (refine Zg ?_; first | (refine Zf ?_; refine qQ ?_) | refine Zj ?_) | refine Za ?_ | (refine Zh ?_; refine Zu ?_) | (refine Zi ?_; refine Zv ?_) | intro _)
  refine Xs (Ym (.slice va i vc) ((acc.map YT).flatten) sp 130) (fun ρ3 hle3 hfz => ?_)
  obtain ⟨sa, sc, e1, hsc, hA⟩ := hown.aIn hal hg hfz
  cases e1
  exact qE ⟨Hp.le_trans hle1 hle3, _, _, _, a2, n2, c2, rfl, hsc, by omega, hA, h2.mono hle3, hc2, rfl⟩
def Wd (l : List UInt8) (st : Int) (bad : Bool) : Kid × RS3 := ((kidR l st).1, (kidR l st).2.1, (kidR l st).2.2, bad)
theorem tkidB_spec (ρ : Hp) (bt br : Nat) (all : Int) (bad : Bool) (vk vr vs : Value) (a : Option Addr) (n c : Nat) (l : List UInt8) (h : SIn ρ ZD a n l) (hc : n ≤ c) (st : Int) :
  Spec Tryz.prog 258 [.pointer (some ⟨bt, 0, none⟩)] ρ [tkC bt br all bad vk vr vs, rdC br a n c st]
   (fun v ρ' L' => v = .agg ⟨XQ (Wd l st bad).1⟩ ∧ ρ.le ρ' ∧ ∃ a' n' c', SIn ρ' ZD a' n' (Wd l st bad).2.1 ∧ n' ≤ c' ∧ L' = [tkC bt br all (Wd l st bad).2.2.2 vk vr vs, rdC br a' n' c' (Wd l st bad).2.2.1]) := by
 refine (tkid_spec ρ bt br all bad vk vr vs a n c l h hc st).mono ?_
 rintro v ρ' L' hle ⟨h1, h2, h3⟩
 exact ⟨h1, hle, h3⟩
theorem manyKid_spec (ρ : Hp) (bt br : Nat) (all : Int) (bad : Bool) (vk vr vs : Value) (a : Option Addr) (n c : Nat) (l : List UInt8) (h : SIn ρ ZD a n l) (hc : n ≤ c) (st : Int) :
  Spec Tryz.prog 257 [.pointer (some ⟨bt, 0, none⟩), .int .i64 4, .func (.func 258) ⟨[.pointer (some ⟨bt, 0, none⟩)]⟩ ⟨[]⟩] ρ [tkC bt br all bad vk vr vs, rdC br a n c st]
   (fun v ρ' L' => ρ.le ρ' ∧ ∃ sa sn sc a' n' c', v = .slice sa sn sc ∧ sn ≤ sc ∧ sn ≤ 255 ∧ AIn ρ' 3 XQ sa sn (Xq Wd l st bad).1 ∧ SIn ρ' ZD a' n' (Xq Wd l st bad).2.1 ∧ n' ≤ c' ∧ L' = [tkC bt br all (Xq Wd l st bad).2.2.2 vk vr vs, rdC br a' n' c' (Xq Wd l st bad).2.2.1]) := by
 have hn1 := u8_spec ρ br a n c l h hc st
 have hb1 := Vu 1 l st
 generalize hq : Xq Wd l st bad = q
 unfold Xq at hq
 generalize YF 1 l st = r1 at *
 obtain ⟨x1, l1, st1⟩ := r1
 dsimp only at hq hn1 hb1
 have hb255 : x1 < 256 := by simpa using hb1
 generalize hB1 : XP bad st1 (decide ((x1 : Int) ≤ 4)) = b1 at *
 refine Ze Tryz.func257 rfl rfl rfl fun u R => ?_
 simp only [Zt, List.cons_append, List.nil_append]
 repeat' (first | (refine Zc (.func 97) ?_; refine qC rfl rfl (hn1) ?_; rintro v ρ' L' hle ⟨rfl, rfl, a1, n1, c1, h1, hc1, rfl⟩ <;> (try simp only [kM, kN, kO])) | (refine Zc (.func 244) ?_; refine qC rfl rfl (Xz _ bt br all bad vk vr vs a1 n1 c1 st1 (decide ((x1 : Int) ≤ 4))) ?_; rintro v ρ' L' hle ⟨rfl, rfl, rfl⟩ <;> (try simp only [kM, kN, kO, hB1])) | (refine Zg ?_; first | (refine Zf ?_; refine qQ ?_) | refine Zj ?_) | refine Za ?_ | (refine Zh ?_; refine Zu ?_) | (refine Zi ?_; refine Zv ?_) | intro _)
 refine ZH [(0, _), (2, _), (6, _), (7, _)] (fun (ζ : (Nat) × (Hp) × (Value) × (List Value) × (List Kid) × (Option Addr) × (Nat) × (Nat) × (List UInt8) × (Int) × (Bool)) => [(9, .int .i64 ζ.1), (8, ζ.2.2.1)]) (fun (ζ : (Nat) × (Hp) × (Value) × (List Value) × (List Kid) × (Option Addr) × (Nat) × (Nat) × (List UInt8) × (Int) × (Bool)) => ζ.2.1) (fun (ζ : (Nat) × (Hp) × (Value) × (List Value) × (List Kid) × (Option Addr) × (Nat) × (Nat) × (List UInt8) × (Int) × (Bool)) => [Ym ζ.2.2.1 ((ζ.2.2.2.2.1.map XQ).flatten) ζ.2.2.2.1 149, tkC bt br all ζ.2.2.2.2.2.2.2.2.2.2 vk vr vs, rdC br ζ.2.2.2.2.2.1 ζ.2.2.2.2.2.2.1 ζ.2.2.2.2.2.2.2.1 ζ.2.2.2.2.2.2.2.2.2.1]) (fun (ζ : (Nat) × (Hp) × (Value) × (List Value) × (List Kid) × (Option Addr) × (Nat) × (Nat) × (List UInt8) × (Int) × (Bool)) => ζ.1 ≤ x1 ∧ ρ'.le ζ.2.1 ∧ OwnS ζ.2.2.1 ζ.1 ((ζ.2.2.2.2.1.map XQ).flatten) ζ.2.2.2.1 3 ∧ ζ.2.2.2.2.1.length = ζ.1 ∧ SIn ζ.2.1 ZD ζ.2.2.2.2.2.1 ζ.2.2.2.2.2.2.1 ζ.2.2.2.2.2.2.2.2.1 ∧ ζ.2.2.2.2.2.2.1 ≤ ζ.2.2.2.2.2.2.2.1 ∧ q = (ζ.2.2.2.2.1 ++ (XR Wd (x1 - ζ.1) ζ.2.2.2.2.2.2.2.2.1 ζ.2.2.2.2.2.2.2.2.2.1 ζ.2.2.2.2.2.2.2.2.2.2).1, (XR Wd (x1 - ζ.1) ζ.2.2.2.2.2.2.2.2.1 ζ.2.2.2.2.2.2.2.2.2.1 ζ.2.2.2.2.2.2.2.2.2.2).2)) (fun (ζ : (Nat) × (Hp) × (Value) × (List Value) × (List Kid) × (Option Addr) × (Nat) × (Nat) × (List UInt8) × (Int) × (Bool)) => x1 - ζ.1) ((0, ρ', .slice none 0 0, [], [], a1, n1, c1, l1, st1, b1)) (⟨Nat.zero_le _, Hp.le_refl _, OwnS.nil 3, rfl, h1, hc1, by simp [hq]⟩) Zo Zo rfl tk ?_
 rintro ⟨i, ρ1, v, sp, acc, a2, n2, c2, l2, st2, bad2⟩ hI
 try simp only [List.cons_append, List.nil_append, List.append_assoc, List.append_eq] at hI ⊢
 try dsimp only at hI ⊢
 obtain ⟨hi, hle1, hown, hal, h2, hc2, hq2⟩ := hI
 obtain ⟨va, vc, rfl, _⟩ := hown.len
 have hg : ∀ x ∈ acc, (XQ x).length = 3 := fun x _ => kidV_len x
 by_cases hlt : i < x1
 ·cases hok : (!bad2 && decide (st2 = 0))
  ·rw [manyTo_stop hok] at hq2
   simp only [List.append_nil] at hq2
   subst hq2
   repeat' (first | (refine Zc (.func 247) ?_; refine qC rfl rfl (ok_spec _ bt br all bad2 vk vr vs a2 n2 c2 st2) ?_; rintro v ρ' L' hle ⟨rfl, rfl, rfl⟩ <;> (try simp only [kM, kN, kO, hok])) | (refine Zg ?_; first | (refine Zf ?_; refine qQ ?_) | refine Zj ?_) | refine Za ?_ | (refine Zh ?_; refine Zu ?_) | (refine Zi ?_; refine Zv ?_) | intro _)
   refine Xs (Ym (.slice va i vc) ((acc.map XQ).flatten) sp 149) (fun ρ3 hle3 hfz => ?_)
   obtain ⟨sa, sc, e1, hsc, hA⟩ := hown.aIn hal hg hfz
   cases e1
   exact qE ⟨Hp.le_trans hle1 hle3, _, _, _, a2, n2, c2, rfl, hsc, by omega, hA, h2.mono hle3, hc2, rfl⟩
  ·rw [show x1 - i = (x1 - (i + 1)) + 1 by omega, XR, if_pos hok] at hq2
   have hrow := fun ρ h => tkidB_spec ρ bt br all bad2 vk vr vs a2 n2 c2 l2 h hc2 st2
   generalize Wd l2 st2 bad2 = r at *
   obtain ⟨x, l3, st3, bad3⟩ := r
   dsimp only at hq2 hrow
   repeat' (first | (refine Zc (.func 247) ?_; refine qC rfl rfl (ok_spec _ bt br all bad2 vk vr vs a2 n2 c2 st2) ?_; rintro v ρ' L' hle ⟨rfl, rfl, rfl⟩ <;> (try simp only [kM, kN, kO, hok])) | (refine Zc (.tmp 31) ?_; refine qC rfl rfl (hrow _ h2) ?_; rintro v ρ' L' hle ⟨rfl, hle3, a3, n3, c3, h3, hc3, rfl⟩ <;> (try simp only [kM, kN, kO])) | (refine Zg ?_; first | (refine Zf ?_; refine qQ ?_) | refine Zj ?_) | refine Za ?_ | (refine Zh ?_; refine Zu ?_) | (refine Zi ?_; refine Zv ?_) | intro _)
   refine Yi (css := [XQ x]) (sz := 3) rfl rfl rfl rfl (by simp) (by simp) rfl (fun bs => ?_)
   simp only [List.flatten_cons, List.flatten_nil, List.append_nil]
   refine YQ (ys := XQ x) (m := 1) rfl rfl hown (hR := by infer_instance) (SrcV.lit) rfl rfl (by decide) rfl (by omega) (by omega) rfl (fun v' sp' hown' => ?_)
   have hm : (acc.map XQ).flatten ++ XQ x = ((acc ++ [x]).map XQ).flatten := by simp
   rw [hm] at hown' ⊢
   repeat' (first | (refine Zg ?_; first | (refine Zf ?_; refine qQ ?_) | refine Zj ?_) | refine Za ?_ | (refine Zh ?_; refine Zu ?_) | (refine Zi ?_; refine Zv ?_) | intro _)
   refine Zx (i + 1, _, v', sp', acc ++ [x], a3, n3, c3, l3, st3, bad3) (⟨hlt, Hp.le_trans hle1 hle3, hown', by simp [hal], h3, hc3, by rw [hq2]; simp⟩) Zo Zo rfl tk inferInstance (by first | omega | (dsimp only; omega))
 ·have hi2 : i = x1 := by omega
  subst hi2
  rw [Nat.sub_self, XR] at hq2
  simp only [List.append_nil] at hq2
  subst hq2
  repeat' (first | (refine Zg ?_; first | (refine Zf ?_; refine qQ ?_) | refine Zj ?_) | refine Za ?_ | (refine Zh ?_; refine Zu ?_) | (refine Zi ?_; refine Zv ?_) | intro _)
  refine Xs (Ym (.slice va i vc) ((acc.map XQ).flatten) sp 149) (fun ρ3 hle3 hfz => ?_)
  obtain ⟨sa, sc, e1, hsc, hA⟩ := hown.aIn hal hg hfz
  cases e1
  exact qE ⟨Hp.le_trans hle1 hle3, _, _, _, a2, n2, c2, rfl, hsc, by omega, hA, h2.mono hle3, hc2, rfl⟩
theorem tleaf_spec (ρ : Hp) (bt br : Nat) (all : Int) (bad : Bool) (vk vr vs : Value) (h1 : vk.oneCell' = true) (h2 : vr.oneCell' = true) (h3 : vs.oneCell' = true) (a : Option Addr) (n c : Nat) (l : List UInt8) (h : SIn ρ ZD a n l) (hc : n ≤ c) (st : Int) :
  Spec Tryz.prog 245 [.pointer (some ⟨bt, 0, none⟩)] ρ [tkC bt br all bad vk vr vs, rdC br a n c st]
   (fun v ρ' L' => v = .tuple ⟨[]⟩ ∧ ρ.le ρ' ∧ ∃ sa sn sc a' n' c', sn ≤ sc ∧ sn ≤ 255 ∧ AIn ρ' 4 YT sa sn (Xq WQ l st bad).1 ∧ SIn ρ' ZD a' n' (Xq WQ l st bad).2.1 ∧ n' ≤ c' ∧ L' = [tkC bt br all (Xq WQ l st bad).2.2.2 vk (.slice sa sn sc) vs, rdC br a' n' c' (Xq WQ l st bad).2.2.1]) := by
 have hm := manyRow_spec ρ bt br all bad vk vr vs a n c l h hc st
 refine Ze Tryz.func245 rfl rfl rfl fun u R => ?_
 simp only [Zt, List.cons_append, List.nil_append]
 repeat' (first | (refine Zc (.func 256) ?_; refine qC rfl rfl (hm) ?_; rintro v ρ' L' hle ⟨hle1, sa, sn, sc, a', n', c', rfl, q1, q2, q3, q4, q5, rfl⟩ <;> (try simp only [kM, kN, kO])) | (refine Zg ?_; first | (refine Zf ?_; refine qQ ?_) | refine Zj ?_) | refine Za ?_ | (refine Zh ?_; refine Zu ?_) | (refine Zi ?_; refine Zv ?_) | intro _)
 exact qE ⟨rfl, hle1, sa, sn, sc, a', n', c', q1, q2, q3, q4, q5, rfl⟩
theorem tinner_spec (ρ : Hp) (bt br : Nat) (all : Int) (bad : Bool) (vk vr vs : Value) (h1 : vk.oneCell' = true) (h2 : vr.oneCell' = true) (h3 : vs.oneCell' = true) (a : Option Addr) (n c : Nat) (l : List UInt8) (h : SIn ρ ZD a n l) (hc : n ≤ c) (st : Int) :
  Spec Tryz.prog 246 [.pointer (some ⟨bt, 0, none⟩)] ρ [tkC bt br all bad vk vr vs, rdC br a n c st]
   (fun v ρ' L' => v = .tuple ⟨[]⟩ ∧ ρ.le ρ' ∧ ∃ sa sn sc a' n' c', sn ≤ sc ∧ sn ≤ 255 ∧ AIn ρ' 3 XQ sa sn (Xq Wd l st bad).1 ∧ SIn ρ' ZD a' n' (Xq Wd l st bad).2.1 ∧ n' ≤ c' ∧ L' = [tkC bt br all (Xq Wd l st bad).2.2.2 vk vr (.slice sa sn sc), rdC br a' n' c' (Xq Wd l st bad).2.2.1]) := by
 have hm := manyKid_spec ρ bt br all bad vk vr vs a n c l h hc st
 refine Ze Tryz.func246 rfl rfl rfl fun u R => ?_
 simp only [Zt, List.cons_append, List.nil_append]
 repeat' (first | (refine Zc (.func 257) ?_; refine qC rfl rfl (hm) ?_; rintro v ρ' L' hle ⟨hle1, sa, sn, sc, a', n', c', rfl, q1, q2, q3, q4, q5, rfl⟩ <;> (try simp only [kM, kN, kO])) | (refine Zg ?_; first | (refine Zf ?_; refine qQ ?_) | refine Zj ?_) | refine Za ?_ | (refine Zh ?_; refine Zu ?_) | (refine Zi ?_; refine Zv ?_) | intro _)
 exact qE ⟨rfl, hle1, sa, sn, sc, a', n', c', q1, q2, q3, q4, q5, rfl⟩
theorem from_spec (ρ : Hp) (a : Option Addr) (n c : Nat) (l : List UInt8) (h : SIn ρ ZD a n l) (hn : n ≤ 1000000) :
  Spec Tryz.prog 203 [.slice a n c] ρ [] (fun v ρ' L' => ρ.le ρ' ∧ ∃ bt br a' c', v = .pointer (some ⟨bt, 0, none⟩) ∧ n ≤ c' ∧ SIn ρ' ZD a' n l ∧ L' = [tkC bt br n false (.int .i64 0) (.slice none 0 0) (.slice none 0 0), rdC br a' n c' 0]) := by
 have hr := read_spec ρ a n c l h hn
 refine Ze Tryz.func203 rfl rfl rfl fun u R => ?_
 simp only [Zt, List.cons_append, List.nil_append]
 repeat' (first | (refine Zc (.func 96) ?_; refine qC rfl rfl (hr) ?_; rintro v ρ' L' hle ⟨hle, br, a', c', rfl, hc', hs, rfl⟩ <;> (try simp only [kM, kN, kO])) | (refine Zg ?_; first | (refine Zf ?_; refine qQ ?_) | refine Zj ?_) | refine Za ?_ | (refine Zh ?_; refine Zu ?_) | (refine Zi ?_; refine Zv ?_) | intro _)
 exact qE ⟨hle, _, br, a', c', rfl, hc', hs, rfl⟩
def takenN (all : Int) (left : Nat) (bad : Bool) (st : Int) : Int := if bad then 0 else if st ≠ 0 then 0 else all - left
def takenE (bad : Bool) (st : Int) : Int := if bad then 161 else st
theorem takenCont_spec (ρ : Hp) (bt br : Nat) (all : Nat) (hall : all ≤ 1000000) (bad : Bool) (vk vr vs : Value) (a : Option Addr) (n c : Nat) (st : Int) (k : Int) (w : CV) (hn : n ≤ all) :
  Spec Tryz.prog 204 [.pointer (some ⟨bt, 0, none⟩), .agg ⟨XF k w⟩] ρ [tkC bt br all bad vk vr vs, rdC br a n c st]
   (fun v ρ' L' => v = .tuple ⟨[.agg ⟨if bad || decide (st ≠ 0) then XF 0 ⟨none, 0, 0, none, 0, 0⟩ else XF k w⟩, .int .i64 (takenN all n bad st), .int .i64 (takenE bad st)]⟩ ∧ ρ' = ρ ∧ L' = []) := by
 refine Ze Tryz.func204 rfl rfl rfl fun u R => ?_
 simp only [Zt, List.cons_append, List.nil_append, takenN, takenE]
 cases bad
 ·by_cases h : st = 0
  ·subst h
   simp only [Bool.false_or, ne_eq, not_true_eq_false, decide_false, Bool.false_eq_true, if_false]
   repeat' (first | (refine Zc (.func 157) ?_; refine qC rfl rfl (Wx _ br a n c 0) ?_; rintro v ρ' L' hle ⟨rfl, rfl, rfl⟩ <;> (try simp only [kM, kN, kO])) | (refine Zg ?_; first | (refine Zf ?_; refine qQ ?_) | refine Zj ?_) | refine Za ?_ | (refine Zh ?_; refine Zu ?_) | (refine Zi ?_; refine Zv ?_) | intro _)
   rename_i b3 b4 b7
   refine Zz (Zr _ _ ([tkC bt br all false vk vr vs, [(b3, .cells ⟨XF k w⟩ 65 (0, 0))]])) (Zy (hT := tk) (Hp.le_refl _)) ?_
   all_goals (refine ZX 0 ?_; refine ZO 1 ?_; refine rNc 2 ?_; refine Yv 3 ?_; refine ZX 4 ?_; refine ZO 5 ?_; refine rNc 6 ?_; refine Yv 7 ?_; refine ZX 8 ?_)
   all_goals (refine Zm (i := 9) ?_; ((try refine Zk ?_); (first | (refine Zc (.func 106) ?_; refine qC rfl rfl (left_spec _ br a n c 0) ?_; rintro v ρ' L' hle ⟨rfl, rfl, rfl⟩ <;> (try simp only [kM, kN, kO])) | (refine Zj ?_; try intro _)) <;> ((try simp only [kM, kN, kO]); refine Za ?_; refine Zl ?_)))
   all_goals refine rSb 10 ?_
   all_goals (refine Zm (i := 11) ?_; ((try refine Zk ?_); (first | (refine Zj ?_; try intro _)) <;> ((try simp only [kM, kN, kO]); refine Za ?_; refine Zl ?_)))
   all_goals (refine ZN ?_; refine rAs 12 ?_; refine rAs 13 ?_; refine ZI ?_)
   repeat' (first | (refine Zg ?_; first | (refine Zf ?_; refine qQ ?_) | refine Zj ?_) | refine Za ?_ | (refine Zh ?_; refine Zu ?_) | (refine Zi ?_; refine Zv ?_) | intro _)
   exact qE ⟨rfl, rfl, rfl⟩
  ·simp only [Bool.false_or, ne_eq, h, not_false_eq_true, decide_true, if_true, Bool.false_eq_true, if_false]
   repeat' (first | (refine Zc (.func 157) ?_; refine qC rfl rfl (Wx _ br a n c st) ?_; rintro v ρ' L' hle ⟨rfl, rfl, rfl⟩ <;> (try simp only [kM, kN, kO])) | (refine Zg ?_; first | (refine Zf ?_; refine qQ ?_) | refine Zj ?_) | refine Za ?_ | (refine Zh ?_; refine Zu ?_) | (refine Zi ?_; refine Zv ?_) | intro _)
   rename_i b3 b4 b7
   refine Zz (Zr _ _ ([tkC bt br all false vk vr vs, [(b7, .cells ⟨XF 0 ⟨none, 0, 0, none, 0, 0⟩⟩ 65 (0, 0))]])) (Zy (hT := tk) (Hp.le_refl _)) ?_
   all_goals (refine ZX 0 ?_; refine ZO 1 ?_; refine rNc 2 ?_; refine Yv 3 ?_; refine ZX 4 ?_)
   all_goals (refine Zm (i := 5) ?_; ((try refine Zk ?_); (first | (refine Zc (.func 157) ?_; refine qC rfl rfl (Wx _ br a n c st) ?_; rintro v ρ' L' hle ⟨rfl, rfl, rfl⟩ <;> (try simp only [kM, kN, kO])) | (refine Zj ?_; try intro _)) <;> ((try simp only [kM, kN, kO]); refine Za ?_; refine Zl ?_)))
   all_goals (refine Zm (i := 6) ?_; ((try refine Zk ?_); (first | (refine Zj ?_; try intro _)) <;> ((try simp only [kM, kN, kO]); refine Za ?_; refine Zl ?_)))
   all_goals (refine ZN ?_; refine rAs 7 ?_; refine rAs 8 ?_; refine ZI ?_)
   repeat' (first | (refine Zg ?_; first | (refine Zf ?_; refine qQ ?_) | refine Zj ?_) | refine Za ?_ | (refine Zh ?_; refine Zu ?_) | (refine Zi ?_; refine Zv ?_) | intro _)
   exact qE ⟨rfl, rfl, rfl⟩
 ·simp only [Bool.true_or, if_true]
  repeat' (first | (refine Zg ?_; first | (refine Zf ?_; refine qQ ?_) | refine Zj ?_) | refine Za ?_ | (refine Zh ?_; refine Zu ?_) | (refine Zi ?_; refine Zv ?_) | intro _)
  exact qE ⟨rfl, rfl, rfl⟩
end Go.Proofs.E
