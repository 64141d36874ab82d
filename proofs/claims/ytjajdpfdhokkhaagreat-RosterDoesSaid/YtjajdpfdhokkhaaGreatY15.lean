/- The law RosterDoes. Part 15 of 20. -/
import Derived.Test.YtjajdpfdhokkhaaGreatY14
namespace Go.Proofs.E
open Go
set_option linter.unusedVariables false
set_option linter.unusedSimpArgs false
set_option linter.unusedSectionVars false
set_option maxRecDepth 4000
set_option maxHeartbeats 1000000
attribute [local irreducible] Yl TL TC TE Spec Wq R1 Hp.le EnvLe TS TR YS Zs
theorem atT1_spec (ρ : Hp) (p : Tx) (n : Int) : Spec Tryz.prog 208 [.agg ⟨Ym p⟩, .int .i64 n] ρ [] (fun v ρ' L' => v = .int .i64 (cmpI p.num n) ∧ ρ' = ρ ∧ L' = []) := by
 refine Zg Tryz.func208 rfl rfl rfl fun u R => ?_
 simp only [Zx, List.cons_append, List.nil_append]
 repeat' (first | (refine Ze (.func 209) ?_; refine qC rfl rfl (cmpI_spec _ _ _) ?_; rintro v ρ' L' hle ⟨rfl, rfl, rfl⟩ <;> (try simp only [kM, kN, kO])) | (refine ZE ?_; refine Zo (Zd rfl) rfl rfl ?_) | (refine Zj ?_; first | (refine Zf ?_; refine qQ ?_) | refine Zn ?_) | refine Zb ?_ | (refine Zi ?_; refine Zv ?_) | (refine Zh ?_; refine Zu ?_) | intro _)
 exact qE ⟨rfl, rfl, rfl⟩
abbrev TblT (l : List Tx) : Prop := l.Pairwise (fun a b => a.num < b.num)
structure AtT (l : List Tx) (num : Int) (i : Nat) (there : Bool) : Prop where
 le : i ≤ l.length
 hit : there = true → ∃ h : i < l.length, l[i].num = num
 lo : TblT l → ∀ j (h : j < l.length), j < i → l[j].num < num
 hi : TblT l → there = false → ∀ j (h : j < l.length), i ≤ j → num < l[j].num
theorem tblT_lt {l : List Tx} (h : TblT l) (i j : Nat) (hj : j < l.length) (hij : i < j) : (l[i]'(by omega)).num < l[j].num := List.pairwise_iff_getElem.1 h i j (by omega) hj hij
theorem searchT_spec (ρ : Hp) (a : Option Addr) (n c : Nat) (l : List Tx) (h : AIn ρ 7 Ym a n l) (hn : n ≤ 1000000) (num : Int) :
  Spec Tryz.prog 207 [.slice a n c, .int .i64 num, .func (.func 208) ⟨[]⟩ ⟨[]⟩] ρ []
  (fun v ρ' L' => ρ' = ρ ∧ ∃ i there, v = .tuple ⟨[.int .i64 (i : Nat), .bool there]⟩ ∧ AtT l num i there ∧ L' = []) := by
 have hl := h.len
 refine Zg Tryz.func207 rfl rfl rfl fun u R => ?_
 simp only [Zx, List.cons_append, List.nil_append]
 repeat' (first | (refine ZE ?_; refine Zo (Zd rfl) rfl rfl ?_) | (refine Zj ?_; first | (refine Zf ?_; refine qQ ?_) | refine Zn ?_) | refine Zb ?_ | (refine Zi ?_; refine Zv ?_) | (refine Zh ?_; refine Zu ?_) | intro _)
 refine ZB [(0, _), (1, _), (2, _), (6, _), (7, _), (8, _)] (fun (ζ : (Nat) × (Nat)) => [(9, .int .i64 ζ.1), (10, .int .i64 ζ.2)]) (fun (ζ : (Nat) × (Nat)) => ρ) (fun (ζ : (Nat) × (Nat)) => []) (fun (ζ : (Nat) × (Nat)) => ζ.1 ≤ ζ.2 ∧ ζ.2 ≤ n ∧ (TblT l → (∀ k (h : k < l.length), k < ζ.1 → l[k].num < num) ∧ ∀ k (h : k < l.length), ζ.2 ≤ k → num ≤ l[k].num)) (fun (ζ : (Nat) × (Nat)) => ζ.2 - ζ.1) ((0, n)) (⟨Nat.zero_le _, Nat.le_refl _, fun _ => ⟨fun k _ h => by omega, fun k h1 h2 => by omega⟩⟩) Zm Zm rfl tk ?_
 rintro ⟨i, j⟩ hI
 try simp only [List.cons_append, List.nil_append, List.append_assoc, List.append_eq] at hI ⊢
 try dsimp only at hI ⊢
 obtain ⟨hij, hj, hok⟩ := hI
 by_cases hlt : i < j
 ·have hm : ((i : Int) + (j : Int)) / 2 ^ 1 = (((i + j) / 2 : Nat) : Int) := by omega
  obtain ⟨b, off, C, T, fr, e1, hb, hfit, hc⟩ := h.get (show (i + j) / 2 < l.length by omega)
  have hq : ∀ x : Tx, l[(i + j) / 2]'(by omega) = x → (x.num < num → TblT l → (∀ k (h : k < l.length), k < (i + j) / 2 + 1 → l[k].num < num)) ∧ (num ≤ x.num → TblT l → ∀ k (h : k < l.length), (i + j) / 2 ≤ k → num ≤ l[k].num) := fun x hx => by
   refine ⟨fun hp ht k hk hk2 => ?_, fun hp ht k hk hk2 => ?_⟩
   ·have hs := tblT_lt ht k ((i + j) / 2) (by omega)
    by_cases e : k = (i + j) / 2
    ·subst e; rw [hx]; exact hp
    ·have := hs (by omega); rw [hx] at this; omega
   ·have hs := tblT_lt ht ((i + j) / 2) k hk
    by_cases e : k = (i + j) / 2
    ·subst e; rw [hx]; exact hp
    ·have := hs (by omega); rw [hx] at this; omega
  generalize hX : l[(i + j) / 2]'(by omega) = x at *
  obtain ⟨q1, q2⟩ := hq x rfl
  rw [e1]
  by_cases hlp : x.num < num
  ·have hcm : cmpI x.num num < 0 := by unfold cmpI; rw [if_pos hlp]; omega
   repeat' (first | (refine iSr ?_; refine Zo (y_shr (c := 1) rfl rfl (by omega) (by simp [IntKind.bits])) rfl rfl ?_; rw [hm]) | (refine Ze (.tmp 24) ?_; refine qC rfl rfl (atT1_spec _ _ _) ?_; rintro v ρ' L' hle ⟨rfl, rfl, rfl⟩ <;> (try simp only [kM, kN, kO])) | (refine ZE ?_; refine Zo (Zd rfl) rfl rfl ?_) | (refine Zj ?_; first | (refine Zf ?_; refine qQ ?_) | refine Zn ?_) | refine Zb ?_ | (refine Zi ?_; refine Zv ?_) | (refine Zh ?_; refine Zu ?_) | intro _)
   rw [← e1]
   have hs1 := q1 hlp
   refine Zq ((i + j) / 2 + 1, j) (⟨by omega, hj, fun ht => ⟨hs1 ht, (hok ht).2⟩⟩) Zm Zm rfl tk inferInstance (by first | omega | (dsimp only; omega))
  ·have hcm : ¬ cmpI x.num num < 0 := by unfold cmpI; rw [if_neg hlp]; split <;> omega
   repeat' (first | (refine iSr ?_; refine Zo (y_shr (c := 1) rfl rfl (by omega) (by simp [IntKind.bits])) rfl rfl ?_; rw [hm]) | (refine Ze (.tmp 24) ?_; refine qC rfl rfl (atT1_spec _ _ _) ?_; rintro v ρ' L' hle ⟨rfl, rfl, rfl⟩ <;> (try simp only [kM, kN, kO])) | (refine ZE ?_; refine Zo (Zd rfl) rfl rfl ?_) | (refine Zj ?_; first | (refine Zf ?_; refine qQ ?_) | refine Zn ?_) | refine Zb ?_ | (refine Zi ?_; refine Zv ?_) | (refine Zh ?_; refine Zu ?_) | intro _)
   rw [← e1]
   have hs2 := q2 (by omega)
   refine Zq (i, (i + j) / 2) (⟨by omega, by omega, fun ht => ⟨(hok ht).1, hs2 ht⟩⟩) Zm Zm rfl tk inferInstance (by first | omega | (dsimp only; omega))
 ·obtain rfl : i = j := by omega
  by_cases hin : i < n
  ·obtain ⟨b, off, C, T, fr, e1, hb, hfit, hc⟩ := h.get (show i < l.length by omega)
   have hX : l[i]'(by omega) = l[i]'(by omega) := rfl
   generalize hx : l[i]'(by omega) = x at hc hX
   rw [e1]
   by_cases hp : x.num = num
   ·have hcm : cmpI x.num num = 0 := by unfold cmpI; rw [hp]; simp
    repeat' (first | (refine Ze (.tmp 40) ?_; refine qC rfl rfl (atT1_spec _ _ _) ?_; rintro v ρ' L' hle ⟨rfl, rfl, rfl⟩ <;> (try simp only [kM, kN, kO, hcm])) | (refine ZE ?_; refine Zo (Zd rfl) rfl rfl ?_) | (refine Zj ?_; first | (refine Zf ?_; refine qQ ?_) | refine Zn ?_) | refine Zb ?_ | (refine Zi ?_; refine Zv ?_) | (refine Zh ?_; refine Zu ?_) | intro _)
    exact qE ⟨rfl, i, true, rfl, ⟨by omega, fun _ => ⟨by omega, by rw [hx]; exact hp⟩, fun ht => (hok ht).1, (fun _ e => nomatch e)⟩, rfl⟩
   ·have hcm : cmpI x.num num ≠ 0 := by unfold cmpI; split <;> (try split) <;> omega
    repeat' (first | (refine Ze (.tmp 40) ?_; refine qC rfl rfl (atT1_spec _ _ _) ?_; rintro v ρ' L' hle ⟨rfl, rfl, rfl⟩ <;> (try simp only [kM, kN, kO])) | (refine ZE ?_; refine Zo (Zd rfl) rfl rfl ?_) | (refine Zj ?_; first | (refine Zf ?_; refine qQ ?_) | refine Zn ?_) | refine Zb ?_ | (refine Zi ?_; refine Zv ?_) | (refine Zh ?_; refine Zu ?_) | intro _)
    refine qE ⟨rfl, i, false, rfl, ⟨by omega, (fun e => nomatch e), fun ht => (hok ht).1, fun ht _ k hk hik => ?_⟩, rfl⟩
    have h1 := (hok ht).2 k hk hik
    by_cases e : i = k
    ·subst e; rw [hx]; rw [hx] at h1; omega
    ·have h2 := tblT_lt ht i k hk (by omega)
     have h3 := (hok ht).2 i (by omega) (Nat.le_refl _)
     omega
  ·repeat' (first | (refine ZE ?_; refine Zo (Zd rfl) rfl rfl ?_) | (refine Zj ?_; first | (refine Zf ?_; refine qQ ?_) | refine Zn ?_) | refine Zb ?_ | (refine Zi ?_; refine Zv ?_) | (refine Zh ?_; refine Zu ?_) | intro _)
   exact qE ⟨rfl, i, false, rfl, ⟨by omega, (fun e => nomatch e), fun ht => (hok ht).1, fun ht _ k hk hik => by omega⟩, rfl⟩
theorem atT_spec (ρ : Hp) (nx : Int) (s : SV) (l : List Tx) (h : AS ρ 7 Ym s l) (num : Int) :
  Spec Tryz.prog 128 [.agg ⟨Yh s ⟨nx, l⟩⟩, .int .i64 num] ρ [] (fun v ρ' L' => ρ' = ρ ∧ ∃ i there, v = .tuple ⟨[.int .i64 (i : Nat), .bool there]⟩ ∧ AtT l num i there ∧ L' = []) := by
 have hs := searchT_spec ρ s.a s.n s.c l h.at' h.big num
 refine Zg Tryz.func128 rfl rfl rfl fun u R => ?_
 simp only [Zx, List.cons_append, List.nil_append]
 repeat' (first | (refine Ze (.func 207) ?_; refine qC rfl rfl (hs) ?_; rintro v ρ' L' hle ⟨rfl, i, there, rfl, hA, rfl⟩ <;> (try simp only [kM, kN, kO])) | (refine ZE ?_; refine Zo (Zd rfl) rfl rfl ?_) | (refine Zj ?_; first | (refine Zf ?_; refine qQ ?_) | refine Zn ?_) | refine Zb ?_ | (refine Zi ?_; refine Zv ?_) | (refine Zh ?_; refine Zu ?_) | intro _)
 exact qE ⟨rfl, i, there, rfl, hA, rfl⟩
theorem idxL_spec (ρ : Hp) (a : Option Addr) (n c : Nat) (l : List Lf) (h : AIn ρ 2 lfV a n l) (hn : n ≤ 200000000000000) (F : Nat) [hF : Yu Tryz.prog F] (cs : List Value) (X : SH) (pp : Lf → Bool)
  (hp : ∀ x ∈ l, Spec Tryz.prog F (.agg ⟨lfV x⟩ :: cs) ρ X (fun z ρ' L' => z = .bool (pp x) ∧ ρ' = ρ ∧ L' = X)) :
  Spec Tryz.prog 312 [.slice a n c, .func (.func F) ⟨[]⟩ ⟨cs⟩] ρ X (fun z ρ' L' => z = .int .i64 (Xz pp l) ∧ ρ' = ρ ∧ L' = X) := by
 have hl := h.len
 refine Zg Tryz.func312 rfl rfl rfl fun u R => ?_
 simp only [Zx, List.cons_append, List.nil_append]
 repeat' (first | (refine ZE ?_; refine Zo (Zd rfl) rfl rfl ?_) | (refine Zj ?_; first | (refine Zf ?_; refine qQ ?_) | refine Zn ?_) | refine Zb ?_ | (refine Zi ?_; refine Zv ?_) | (refine Zh ?_; refine Zu ?_) | intro _)
 refine ZB [(0, _), (1, _), (7, _)] (fun (ζ : (Nat)) => [(8, .int .i64 ζ), (4, .int .i64 0)]) (fun (ζ : (Nat)) => ρ) (fun (ζ : (Nat)) => X) (fun (ζ : (Nat)) => ζ ≤ n ∧ ∀ x ∈ l.take ζ, pp x = false) (fun (ζ : (Nat)) => n - ζ) (0) (⟨Nat.zero_le _, by simp⟩) Zm Zm rfl tk ?_
 rintro k hI
 try simp only [List.cons_append, List.nil_append, List.append_assoc, List.append_eq] at hI ⊢
 try dsimp only at hI ⊢
 obtain ⟨hk, hok⟩ := hI
 by_cases hlt : k < n
 ·obtain ⟨b, off, C, T, fr, rfl, hb, hfit, hc⟩ := h.get (show k < l.length by omega)
  have hf := fun (e : pp l[k] = true) => idx_found (p := pp) (show k < l.length by omega) e hok
  have ht := fun (e : pp l[k] = false) => take_more (p := fun x => pp x = false) (show k < l.length by omega) e hok
  have hp0 := hp _ (List.getElem_mem (show k < l.length by omega))
  cases hx : pp l[k]
  ·have hok2 := ht hx
   rw [hx] at hp0
   generalize l[k] = x at *
   repeat' (first | (refine Ze (.tmp 11) ?_; refine qC rfl rfl (hp0) ?_; rintro v ρ' L' hle ⟨rfl, rfl, rfl⟩ <;> (try simp only [kM, kN, kO])) | (refine ZE ?_; refine Zo (Zd rfl) rfl rfl ?_) | (refine Zj ?_; first | (refine Zf ?_; refine qQ ?_) | refine Zn ?_) | refine Zb ?_ | (refine Zi ?_; refine Zv ?_) | (refine Zh ?_; refine Zu ?_) | intro _)
   refine Zq (k + 1) (⟨hlt, hok2⟩) Zm Zm rfl tk inferInstance (by first | omega | (dsimp only; omega))
  ·have e := hf hx
   rw [hx] at hp0
   have e2 : Xz pp l = (k : Int) := by unfold Xz; rw [e]
   rw [e2]
   generalize l[k] = x at *
   repeat' (first | (refine Ze (.tmp 11) ?_; refine qC rfl rfl (hp0) ?_; rintro v ρ' L' hle ⟨rfl, rfl, rfl⟩ <;> (try simp only [kM, kN, kO])) | (refine ZE ?_; refine Zo (Zd rfl) rfl rfl ?_) | (refine Zj ?_; first | (refine Zf ?_; refine qQ ?_) | refine Zn ?_) | refine Zb ?_ | (refine Zi ?_; refine Zv ?_) | (refine Zh ?_; refine Zu ?_) | intro _)
   exact qE (L' := _) ⟨rfl, rfl, rfl⟩
 ·have hk2 : k = l.length := by omega
  rw [hk2, List.take_length] at hok
  have e2 : Xz pp l = -1 := by unfold Xz; rw [idx_none hok]
  rw [e2]
  repeat' (first | (refine ZE ?_; refine Zo (Zd rfl) rfl rfl ?_) | (refine Zj ?_; first | (refine Zf ?_; refine qQ ?_) | refine Zn ?_) | refine Zb ?_ | (refine Zi ?_; refine Zv ?_) | (refine Zh ?_; refine Zu ?_) | intro _)
  exact qE (L' := _) ⟨rfl, rfl, rfl⟩
theorem delL_spec (ρ : Hp) (v : Value) (sp : List Value) (l : List Lf) (hl : l.length ≤ 200000000000000) (hown : OwnS v l.length ((l.map lfV).flatten) sp 2) (F : Nat) [hF : Yu Tryz.prog F] (cs : List Value) (X : SH) (pp : Lf → Bool)
  (hp : ∀ ρ1, ρ.le ρ1 → ∀ x ∈ l, Spec Tryz.prog F (.agg ⟨lfV x⟩ :: cs) ρ1 X (fun z ρ' L' => z = .bool (pp x) ∧ ρ' = ρ1 ∧ L' = X)) :
  Spec Tryz.prog 289 [v, .func (.func F) ⟨[]⟩ ⟨cs⟩] ρ (ZK v ((l.map lfV).flatten) sp 74 :: X)
   (fun z ρ' L' => ρ' = ρ ∧ ∃ sp', OwnS z (l.filter (fun x => !pp x)).length (((l.filter (fun x => !pp x)).map lfV).flatten) sp' 2 ∧ L' = ZK z (((l.filter (fun x => !pp x)).map lfV).flatten) sp' 74 :: X) := by
 have hidx : Spec Tryz.prog 312 [v, .func (.func F) ⟨[]⟩ ⟨cs⟩] ρ ([ZK v ((l.map lfV).flatten) sp 74] ++ X) (fun z ρ' L' => z = .int .i64 (Xz pp l) ∧ ρ' = ρ ∧ L' = ZK v ((l.map lfV).flatten) sp 74 :: X) := by
  refine (Spec.thaw (C := [ZK v ((l.map lfV).flatten) sp 74]) (L := X) (Post := fun z L' => z = .int .i64 (Xz pp l) ∧ L' = X) (fun ρ1 hle hf => ?_)).mono ?_
  ·obtain ⟨a, c, rfl, hc, hA⟩ := hown.aIn rfl (fun x _ => rfl) (by simpa using hf)
   exact (idxL_spec ρ1 a l.length c l hA hl F cs X pp (hp ρ1 hle)).mono (fun z ρ' L' _ h => ⟨h.2.1, h.1, h.2.2⟩)
  ·rintro z ρ' L' _ ⟨rfl, L2, ⟨rfl, rfl⟩, rfl⟩
   exact ⟨rfl, rfl, rfl⟩
 rcases hown.out with ⟨rfl, h0, h1, rfl⟩ | ⟨b, cap, rfl, h1, h2, h3⟩
 ·have hl0 : l = [] := List.eq_nil_of_length_eq_zero h0
  subst hl0
  have e : Xz pp [] = -1 := rfl
  rw [e] at hidx
  refine Zg Tryz.func289 rfl rfl rfl fun u R => ?_
  simp only [Zx, List.cons_append, List.nil_append] at hidx ⊢
  repeat' (first | (refine Ze (.func 312) ?_; refine qC rfl rfl (hidx) ?_; rintro v ρ' L' hle ⟨rfl, rfl, rfl⟩ <;> (try simp only [kM, kN, kO])) | (refine ZE ?_; refine Zo (Zd rfl) rfl rfl ?_) | (refine Zj ?_; first | (refine Zf ?_; refine qQ ?_) | refine Zn ?_) | refine Zb ?_ | (refine Zi ?_; refine Zv ?_) | (refine Zh ?_; refine Zu ?_) | intro _)
  exact qE (L' := [] :: X) ⟨rfl, [], OwnS.nil 2, rfl⟩
 ·by_cases hall : ∀ x ∈ l, pp x = false
  ·have e : Xz pp l = -1 := by unfold Xz; rw [idx_none hall]
   have hfl : l.filter (fun x => !pp x) = l := List.filter_eq_self.2 (fun x hx => by rw [hall x hx]; rfl)
   rw [e] at hidx
   rw [hfl]
   refine Zg Tryz.func289 rfl rfl rfl fun u R => ?_
   simp only [Zx, List.cons_append, List.nil_append] at hidx ⊢
   repeat' (first | (refine Ze (.func 312) ?_; refine qC rfl rfl (hidx) ?_; rintro v ρ' L' hle ⟨rfl, rfl, rfl⟩ <;> (try simp only [kM, kN, kO])) | (refine ZE ?_; refine Zo (Zd rfl) rfl rfl ?_) | (refine Zj ?_; first | (refine Zf ?_; refine qQ ?_) | refine Zn ?_) | refine Zb ?_ | (refine Zi ?_; refine Zv ?_) | (refine Zh ?_; refine Zu ?_) | intro _)
   exact qE (L' := ZK (.slice (some ⟨b, 0, none⟩) l.length cap) ((l.map lfV).flatten) sp 74 :: X) ⟨rfl, sp, hown, rfl⟩
  ·obtain ⟨i, hi, hpi, hbef⟩ : ∃ i, ∃ h : i < l.length, pp l[i] = true ∧ ∀ x ∈ l.take i, pp x = false := by
    cases hf : l.findIdx? pp with
    | none => exact absurd (fun x hx => by have := List.findIdx?_eq_none_iff.1 hf x hx; exact this) hall
    | some i =>
     obtain ⟨h1, h2, h3⟩ := List.findIdx?_eq_some_iff_getElem.1 hf
     refine ⟨i, h1, h2, fun x hx => ?_⟩
     obtain ⟨j, hj, rfl⟩ := List.mem_take_iff_getElem.1 hx
     have := h3 j (by omega)
     simpa using this
   have e : Xz pp l = (i : Int) := by unfold Xz; rw [idx_found (p := pp) hi hpi hbef]
   have hK0 : (l.take i).filter (fun x => !pp x) = l.take i := List.filter_eq_self.2 (fun x hx => by rw [hbef x hx]; rfl)
   have hK1 : (l.take (i + 1)).filter (fun x => !pp x) = l.take i := by
    rw [List.take_succ_eq_append_getElem hi, List.filter_append, hK0, List.filter_cons, if_neg (by simp [hpi])]; simp
   have hfl : ∀ m : List Lf, ((m.map lfV).flatten).length = m.length * 2 := fun m => YX WA m
   have hC : ∀ xs sp, ZK (.slice (some ⟨b, 0, none⟩) l.length cap) xs sp 74 = [(b, .cells ⟨xs ++ sp⟩ 74 (0, 0))] := fun _ _ => rfl
   have hsplit : (l.map lfV).flatten ++ sp = ((l.take i).map lfV).flatten ++ (lfV l[i] ++ (((l.drop (i + 1)).map lfV).flatten ++ sp)) := by
    have : l = l.take i ++ l[i] :: l.drop (i + 1) := by rw [← List.drop_eq_getElem_cons hi, List.take_append_drop]
    have h2 : ∀ (A : List Lf) (x : Lf) (B : List Lf), ((A ++ x :: B).map lfV).flatten ++ sp = (A.map lfV).flatten ++ (lfV x ++ ((B.map lfV).flatten ++ sp)) := fun A x B => by simp
    exact (congrArg (fun l => (l.map lfV).flatten ++ sp) this).trans (h2 _ _ _)
   rw [hC, e] at hidx
   rw [hC]
   refine Zg Tryz.func289 rfl rfl rfl fun u R => ?_
   simp only [Zx, List.cons_append, List.nil_append] at hidx ⊢
   repeat' (first | (refine Ze (.func 312) ?_; refine qC rfl rfl (hidx) ?_; rintro v ρ' L' hle ⟨rfl, rfl, rfl⟩ <;> (try simp only [kM, kN, kO])) | (refine ZE ?_; refine Zo (Zd rfl) rfl rfl ?_) | (refine Zj ?_; first | (refine Zf ?_; refine qQ ?_) | refine Zn ?_) | refine Zb ?_ | (refine Zi ?_; refine Zv ?_) | (refine Zh ?_; refine Zu ?_) | intro _)
   rw [hsplit]
   refine ZB [(0, _), (1, _), (4, _)] (fun (ζ : (Nat) × (Nat) × (List Lf) × (List Value)) => [(5, .int .i64 ζ.2.1), (6, .int .i64 ζ.1)]) (fun (ζ : (Nat) × (Nat) × (List Lf) × (List Value)) => ρ') (fun (ζ : (Nat) × (Nat) × (List Lf) × (List Value)) => [(b, .cells ⟨(ζ.2.2.1.map lfV).flatten ++ (ζ.2.2.2 ++ (((l.drop ζ.1).map lfV).flatten ++ sp))⟩ 74 (0, 0))] :: X) (fun (ζ : (Nat) × (Nat) × (List Lf) × (List Value)) => ζ.1 ≤ l.length ∧ ζ.2.1 = ζ.2.2.1.length ∧ ζ.2.2.1 = (l.take ζ.1).filter (fun x => !pp x) ∧ ζ.2.2.1.length < ζ.1 ∧ ζ.2.2.2.length = (ζ.1 - ζ.2.2.1.length) * 2) (fun (ζ : (Nat) × (Nat) × (List Lf) × (List Value)) => l.length - ζ.1) ((i + 1, i, l.take i, lfV l[i])) (⟨hi, by simp; omega, hK1.symm, by simp; omega, by simp; omega⟩) Zm Zm rfl tk ?_
   rintro ⟨j, kl, K, M⟩ hI
   try simp only [List.cons_append, List.nil_append, List.append_assoc, List.append_eq] at hI ⊢
   try dsimp only at hI ⊢
   obtain ⟨hj, rfl, hK, hKj, hM⟩ := hI
   have hKl := hfl K
   by_cases hlt : j < l.length
   ·have hd := List.drop_eq_getElem_cons hlt
    have hx1 : (l.take (j + 1)).filter (fun x => !pp x) = K ++ (if pp l[j] then [] else [l[j]]) := by
     rw [List.take_succ_eq_append_getElem hlt, List.filter_append, ← hK, List.filter_cons]
     cases pp l[j] <;> simp
    have hp0 := hp ρ' (Hp.le_refl ρ') _ (List.getElem_mem hlt)
    rw [hd]
    generalize l[j] = x at *
    obtain ⟨M1, M2, rfl, hM1⟩ : ∃ M1 M2 : List Value, M = M1 ++ M2 ∧ M1.length = 2 := ⟨M.take 2, M.drop 2, (List.take_append_drop _ _).symm, by rw [List.length_take]; omega⟩
    simp only [List.map_cons, List.flatten_cons, List.append_assoc]
    have hM2 : M2.length = (j - K.length) * 2 - 2 := by rw [List.length_append] at hM; omega
    have hcell : ((K.map lfV).flatten ++ (M1 ++ (M2 ++ (lfV x ++ (((l.drop (j + 1)).map lfV).flatten ++ sp))))).drop (0 + j * 2) = lfV x ++ (((l.drop (j + 1)).map lfV).flatten ++ sp) := by
     rw [← List.append_assoc M1, ← List.append_assoc]
     refine List.drop_left' ?_
     simp only [List.length_append, hKl]; omega
    have hcc : (((K.map lfV).flatten ++ (M1 ++ (M2 ++ (lfV x ++ (((l.drop (j + 1)).map lfV).flatten ++ sp))))).drop (0 + j * 2)).take 2 = lfV x := by rw [hcell]; rfl
    have hfit : 0 + j * 2 + 2 ≤ ((K.map lfV).flatten ++ (M1 ++ (M2 ++ (lfV x ++ (((l.drop (j + 1)).map lfV).flatten ++ sp))))).length := by
     have := congrArg List.length hcell
     simp only [List.length_drop, List.length_append, show (lfV x).length = 2 from rfl] at this ⊢
     omega
    have hPl : ((K.map lfV).flatten).length = 0 + K.length * 2 := by rw [hKl]; omega
    cases hpx : pp x
    ·rw [hpx] at hp0 hx1
     have hre : (K.map lfV).flatten ++ (lfV x ++ (M2 ++ (lfV x ++ (((l.drop (j + 1)).map lfV).flatten ++ sp)))) = ((K ++ [x]).map lfV).flatten ++ ((M2 ++ lfV x) ++ (((l.drop (j + 1)).map lfV).flatten ++ sp)) := by simp
     (try simp only [kM, kN, kO] at hre)
     repeat' (first | (refine Ze (.tmp 26) ?_; refine qC rfl rfl (hp0) ?_; rintro v ρ' L' hle ⟨rfl, rfl, rfl⟩ <;> (try simp only [kM, kN, kO])) | (refine tl_store_midA (P := _) (l := M1) rfl rfl hPl hM1 rfl rfl ?_) | (refine ZE ?_; refine Zo (Zd rfl) rfl rfl ?_) | (refine Zj ?_; first | (refine Zf ?_; refine qQ ?_) | refine Zn ?_) | refine Zb ?_ | (refine Zi ?_; refine Zv ?_) | (refine Zh ?_; refine Zu ?_) | intro _)
     (try simp only [kM, kN, kO])
     rw [hre]
     have hKn : (K ++ [x]).length = K.length + 1 := by simp
     rw [show ((K.length : Int) + 1) = (((K ++ [x]).length : Nat) : Int) by rw [hKn]; omega]
     refine Zq (j + 1, (K ++ [x]).length, K ++ [x], M2 ++ lfV x) (⟨hlt, rfl, by rw [hx1]; rfl, by dsimp only; omega, by simp only [List.length_append, List.length_singleton, show (lfV x).length = 2 from rfl]; omega⟩) Zm Zm rfl tk inferInstance (by first | omega | (dsimp only; omega))
    ·rw [hpx] at hp0 hx1
     have hre : (K.map lfV).flatten ++ (M1 ++ (M2 ++ (lfV x ++ (((l.drop (j + 1)).map lfV).flatten ++ sp)))) = (K.map lfV).flatten ++ (((M1 ++ M2) ++ lfV x) ++ (((l.drop (j + 1)).map lfV).flatten ++ sp)) := by simp
     (try simp only [kM, kN, kO] at hre)
     repeat' (first | (refine Ze (.tmp 26) ?_; refine qC rfl rfl (hp0) ?_; rintro v ρ' L' hle ⟨rfl, rfl, rfl⟩ <;> (try simp only [kM, kN, kO])) | (refine ZE ?_; refine Zo (Zd rfl) rfl rfl ?_) | (refine Zj ?_; first | (refine Zf ?_; refine qQ ?_) | refine Zn ?_) | refine Zb ?_ | (refine Zi ?_; refine Zv ?_) | (refine Zh ?_; refine Zu ?_) | intro _)
     (try simp only [kM, kN, kO])
     rw [hre]
     refine Zq (j + 1, K.length, K, (M1 ++ M2) ++ lfV x) (⟨hlt, rfl, by rw [hx1]; simp, by dsimp only; omega, by simp only [List.length_append, List.length_singleton, show (lfV x).length = 2 from rfl] at hM ⊢; omega⟩) Zm Zm rfl tk inferInstance (by first | omega | (dsimp only; omega))
   ·obtain rfl : j = l.length := by omega
    rw [List.take_length] at hK
    simp only [List.drop_length, List.map_nil, List.flatten_nil, List.nil_append]
    have hni : ¬ cap = K.length := by omega
    have hst : ∀ ws : List Value, ws.length = (l.length - K.length) * 2 → stc ((K.map lfV).flatten ++ (M ++ sp)) (K.length * 2) ws = (K.map lfV).flatten ++ (ws ++ sp) := fun ws hw => by
     rw [← hKl, stcN_mid (by rw [hw, hM])]
    repeat' (first | (refine ZE ?_; refine Zo (Zd rfl) rfl rfl ?_) | (refine Zj ?_; first | (refine Zf ?_; refine qQ ?_) | refine Zn ?_) | refine Zb ?_ | (refine Zi ?_; refine Zv ?_) | (refine Zh ?_; refine Zu ?_) | intro _)
    simp only [Int.toNat_natCast, if_neg hni, Option.map_some, Xj, Nat.zero_add]
    refine tl_clearN (sz := 2) rfl rfl rfl (by simp only [List.length_append]; omega) (by omega) (fun ws hws => ?_)
    rw [hst ws hws]
    repeat' (first | (refine ZE ?_; refine Zo (Zd rfl) rfl rfl ?_) | (refine Zj ?_; first | (refine Zf ?_; refine qQ ?_) | refine Zn ?_) | refine Zb ?_ | (refine Zi ?_; refine Zv ?_) | (refine Zh ?_; refine Zu ?_) | intro _)
    rw [← hK]
    refine qE (L' := [(b, .cells ⟨(K.map lfV).flatten ++ (ws ++ sp)⟩ 74 (0, 0))] :: X) ⟨rfl, ws ++ sp, ⟨.inr ⟨b, cap, rfl, hKl, ?_, by omega⟩⟩, rfl⟩
    simp only [List.length_append, hws]
    have : ((l.map lfV).flatten).length + sp.length = cap * 2 := h2
    rw [hfl l] at this
    omega
theorem idxX_spec (ρ : Hp) (a : Option Addr) (n c : Nat) (l : List Tx) (h : AIn ρ 7 Ym a n l) (hn : n ≤ 200000000000000) (F : Nat) [hF : Yu Tryz.prog F] (cs : List Value) (X : SH) (pp : Tx → Bool)
  (hp : ∀ x ∈ l, Spec Tryz.prog F (.agg ⟨Ym x⟩ :: cs) ρ X (fun z ρ' L' => z = .bool (pp x) ∧ ρ' = ρ ∧ L' = X)) :
  Spec Tryz.prog 293 [.slice a n c, .func (.func F) ⟨[]⟩ ⟨cs⟩] ρ X (fun z ρ' L' => z = .int .i64 (Xz pp l) ∧ ρ' = ρ ∧ L' = X) := by
 have hl := h.len
 refine Zg Tryz.func293 rfl rfl rfl fun u R => ?_
 simp only [Zx, List.cons_append, List.nil_append]
 repeat' (first | (refine ZE ?_; refine Zo (Zd rfl) rfl rfl ?_) | (refine Zj ?_; first | (refine Zf ?_; refine qQ ?_) | refine Zn ?_) | refine Zb ?_ | (refine Zi ?_; refine Zv ?_) | (refine Zh ?_; refine Zu ?_) | intro _)
 refine ZB [(0, _), (1, _), (7, _)] (fun (ζ : (Nat)) => [(8, .int .i64 ζ), (4, .int .i64 0)]) (fun (ζ : (Nat)) => ρ) (fun (ζ : (Nat)) => X) (fun (ζ : (Nat)) => ζ ≤ n ∧ ∀ x ∈ l.take ζ, pp x = false) (fun (ζ : (Nat)) => n - ζ) (0) (⟨Nat.zero_le _, by simp⟩) Zm Zm rfl tk ?_
 rintro k hI
 try simp only [List.cons_append, List.nil_append, List.append_assoc, List.append_eq] at hI ⊢
 try dsimp only at hI ⊢
 obtain ⟨hk, hok⟩ := hI
 by_cases hlt : k < n
 ·obtain ⟨b, off, C, T, fr, rfl, hb, hfit, hc⟩ := h.get (show k < l.length by omega)
  have hf := fun (e : pp l[k] = true) => idx_found (p := pp) (show k < l.length by omega) e hok
  have ht := fun (e : pp l[k] = false) => take_more (p := fun x => pp x = false) (show k < l.length by omega) e hok
  have hp0 := hp _ (List.getElem_mem (show k < l.length by omega))
  cases hx : pp l[k]
  ·have hok2 := ht hx
   rw [hx] at hp0
   generalize l[k] = x at *
   repeat' (first | (refine Ze (.tmp 11) ?_; refine qC rfl rfl (hp0) ?_; rintro v ρ' L' hle ⟨rfl, rfl, rfl⟩ <;> (try simp only [kM, kN, kO])) | (refine ZE ?_; refine Zo (Zd rfl) rfl rfl ?_) | (refine Zj ?_; first | (refine Zf ?_; refine qQ ?_) | refine Zn ?_) | refine Zb ?_ | (refine Zi ?_; refine Zv ?_) | (refine Zh ?_; refine Zu ?_) | intro _)
   refine Zq (k + 1) (⟨hlt, hok2⟩) Zm Zm rfl tk inferInstance (by first | omega | (dsimp only; omega))
  ·have e := hf hx
   rw [hx] at hp0
   have e2 : Xz pp l = (k : Int) := by unfold Xz; rw [e]
   rw [e2]
   generalize l[k] = x at *
   repeat' (first | (refine Ze (.tmp 11) ?_; refine qC rfl rfl (hp0) ?_; rintro v ρ' L' hle ⟨rfl, rfl, rfl⟩ <;> (try simp only [kM, kN, kO])) | (refine ZE ?_; refine Zo (Zd rfl) rfl rfl ?_) | (refine Zj ?_; first | (refine Zf ?_; refine qQ ?_) | refine Zn ?_) | refine Zb ?_ | (refine Zi ?_; refine Zv ?_) | (refine Zh ?_; refine Zu ?_) | intro _)
   exact qE (L' := _) ⟨rfl, rfl, rfl⟩
 ·have hk2 : k = l.length := by omega
  rw [hk2, List.take_length] at hok
  have e2 : Xz pp l = -1 := by unfold Xz; rw [idx_none hok]
  rw [e2]
  repeat' (first | (refine ZE ?_; refine Zo (Zd rfl) rfl rfl ?_) | (refine Zj ?_; first | (refine Zf ?_; refine qQ ?_) | refine Zn ?_) | refine Zb ?_ | (refine Zi ?_; refine Zv ?_) | (refine Zh ?_; refine Zu ?_) | intro _)
  exact qE (L' := _) ⟨rfl, rfl, rfl⟩
theorem delX_spec (ρ : Hp) (v : Value) (sp : List Value) (l : List Tx) (hl : l.length ≤ 200000000000000) (hown : OwnS v l.length ((l.map Ym).flatten) sp 7) (F : Nat) [hF : Yu Tryz.prog F] (cs : List Value) (X : SH) (pp : Tx → Bool)
  (hp : ∀ ρ1, ρ.le ρ1 → ∀ x ∈ l, Spec Tryz.prog F (.agg ⟨Ym x⟩ :: cs) ρ1 X (fun z ρ' L' => z = .bool (pp x) ∧ ρ' = ρ1 ∧ L' = X)) :
  Spec Tryz.prog 267 [v, .func (.func F) ⟨[]⟩ ⟨cs⟩] ρ (ZK v ((l.map Ym).flatten) sp 72 :: X)
   (fun z ρ' L' => ρ' = ρ ∧ ∃ sp', OwnS z (l.filter (fun x => !pp x)).length (((l.filter (fun x => !pp x)).map Ym).flatten) sp' 7 ∧ L' = ZK z (((l.filter (fun x => !pp x)).map Ym).flatten) sp' 72 :: X) := by
 have hidx : Spec Tryz.prog 293 [v, .func (.func F) ⟨[]⟩ ⟨cs⟩] ρ ([ZK v ((l.map Ym).flatten) sp 72] ++ X) (fun z ρ' L' => z = .int .i64 (Xz pp l) ∧ ρ' = ρ ∧ L' = ZK v ((l.map Ym).flatten) sp 72 :: X) := by
  refine (Spec.thaw (C := [ZK v ((l.map Ym).flatten) sp 72]) (L := X) (Post := fun z L' => z = .int .i64 (Xz pp l) ∧ L' = X) (fun ρ1 hle hf => ?_)).mono ?_
  ·obtain ⟨a, c, rfl, hc, hA⟩ := hown.aIn rfl (fun x _ => rfl) (by simpa using hf)
   exact (idxX_spec ρ1 a l.length c l hA hl F cs X pp (hp ρ1 hle)).mono (fun z ρ' L' _ h => ⟨h.2.1, h.1, h.2.2⟩)
  ·rintro z ρ' L' _ ⟨rfl, L2, ⟨rfl, rfl⟩, rfl⟩
   exact ⟨rfl, rfl, rfl⟩
 rcases hown.out with ⟨rfl, h0, h1, rfl⟩ | ⟨b, cap, rfl, h1, h2, h3⟩
 ·have hl0 : l = [] := List.eq_nil_of_length_eq_zero h0
  subst hl0
  have e : Xz pp [] = -1 := rfl
  rw [e] at hidx
  refine Zg Tryz.func267 rfl rfl rfl fun u R => ?_
  simp only [Zx, List.cons_append, List.nil_append] at hidx ⊢
  repeat' (first | (refine Ze (.func 293) ?_; refine qC rfl rfl (hidx) ?_; rintro v ρ' L' hle ⟨rfl, rfl, rfl⟩ <;> (try simp only [kM, kN, kO])) | (refine ZE ?_; refine Zo (Zd rfl) rfl rfl ?_) | (refine Zj ?_; first | (refine Zf ?_; refine qQ ?_) | refine Zn ?_) | refine Zb ?_ | (refine Zi ?_; refine Zv ?_) | (refine Zh ?_; refine Zu ?_) | intro _)
  exact qE (L' := [] :: X) ⟨rfl, [], OwnS.nil 7, rfl⟩
 ·by_cases hall : ∀ x ∈ l, pp x = false
  ·have e : Xz pp l = -1 := by unfold Xz; rw [idx_none hall]
   have hfl : l.filter (fun x => !pp x) = l := List.filter_eq_self.2 (fun x hx => by rw [hall x hx]; rfl)
   rw [e] at hidx
   rw [hfl]
   refine Zg Tryz.func267 rfl rfl rfl fun u R => ?_
   simp only [Zx, List.cons_append, List.nil_append] at hidx ⊢
   repeat' (first | (refine Ze (.func 293) ?_; refine qC rfl rfl (hidx) ?_; rintro v ρ' L' hle ⟨rfl, rfl, rfl⟩ <;> (try simp only [kM, kN, kO])) | (refine ZE ?_; refine Zo (Zd rfl) rfl rfl ?_) | (refine Zj ?_; first | (refine Zf ?_; refine qQ ?_) | refine Zn ?_) | refine Zb ?_ | (refine Zi ?_; refine Zv ?_) | (refine Zh ?_; refine Zu ?_) | intro _)
   exact qE (L' := ZK (.slice (some ⟨b, 0, none⟩) l.length cap) ((l.map Ym).flatten) sp 72 :: X) ⟨rfl, sp, hown, rfl⟩
  ·obtain ⟨i, hi, hpi, hbef⟩ : ∃ i, ∃ h : i < l.length, pp l[i] = true ∧ ∀ x ∈ l.take i, pp x = false := by
    cases hf : l.findIdx? pp with
    | none => exact absurd (fun x hx => by have := List.findIdx?_eq_none_iff.1 hf x hx; exact this) hall
    | some i =>
     obtain ⟨h1, h2, h3⟩ := List.findIdx?_eq_some_iff_getElem.1 hf
     refine ⟨i, h1, h2, fun x hx => ?_⟩
     obtain ⟨j, hj, rfl⟩ := List.mem_take_iff_getElem.1 hx
     have := h3 j (by omega)
     simpa using this
   have e : Xz pp l = (i : Int) := by unfold Xz; rw [idx_found (p := pp) hi hpi hbef]
   have hK0 : (l.take i).filter (fun x => !pp x) = l.take i := List.filter_eq_self.2 (fun x hx => by rw [hbef x hx]; rfl)
   have hK1 : (l.take (i + 1)).filter (fun x => !pp x) = l.take i := by
    rw [List.take_succ_eq_append_getElem hi, List.filter_append, hK0, List.filter_cons, if_neg (by simp [hpi])]; simp
   have hfl : ∀ m : List Tx, ((m.map Ym).flatten).length = m.length * 7 := fun m => YX Wy m
   have hC : ∀ xs sp, ZK (.slice (some ⟨b, 0, none⟩) l.length cap) xs sp 72 = [(b, .cells ⟨xs ++ sp⟩ 72 (0, 0))] := fun _ _ => rfl
   have hsplit : (l.map Ym).flatten ++ sp = ((l.take i).map Ym).flatten ++ (Ym l[i] ++ (((l.drop (i + 1)).map Ym).flatten ++ sp)) := by
    have : l = l.take i ++ l[i] :: l.drop (i + 1) := by rw [← List.drop_eq_getElem_cons hi, List.take_append_drop]
    have h2 : ∀ (A : List Tx) (x : Tx) (B : List Tx), ((A ++ x :: B).map Ym).flatten ++ sp = (A.map Ym).flatten ++ (Ym x ++ ((B.map Ym).flatten ++ sp)) := fun A x B => by simp
    exact (congrArg (fun l => (l.map Ym).flatten ++ sp) this).trans (h2 _ _ _)
   rw [hC, e] at hidx
   rw [hC]
   refine Zg Tryz.func267 rfl rfl rfl fun u R => ?_
   simp only [Zx, List.cons_append, List.nil_append] at hidx ⊢
   repeat' (first | (refine Ze (.func 293) ?_; refine qC rfl rfl (hidx) ?_; rintro v ρ' L' hle ⟨rfl, rfl, rfl⟩ <;> (try simp only [kM, kN, kO])) | (refine ZE ?_; refine Zo (Zd rfl) rfl rfl ?_) | (refine Zj ?_; first | (refine Zf ?_; refine qQ ?_) | refine Zn ?_) | refine Zb ?_ | (refine Zi ?_; refine Zv ?_) | (refine Zh ?_; refine Zu ?_) | intro _)
   rw [hsplit]
   refine ZB [(0, _), (1, _), (4, _)] (fun (ζ : (Nat) × (Nat) × (List Tx) × (List Value)) => [(5, .int .i64 ζ.2.1), (6, .int .i64 ζ.1)]) (fun (ζ : (Nat) × (Nat) × (List Tx) × (List Value)) => ρ') (fun (ζ : (Nat) × (Nat) × (List Tx) × (List Value)) => [(b, .cells ⟨(ζ.2.2.1.map Ym).flatten ++ (ζ.2.2.2 ++ (((l.drop ζ.1).map Ym).flatten ++ sp))⟩ 72 (0, 0))] :: X) (fun (ζ : (Nat) × (Nat) × (List Tx) × (List Value)) => ζ.1 ≤ l.length ∧ ζ.2.1 = ζ.2.2.1.length ∧ ζ.2.2.1 = (l.take ζ.1).filter (fun x => !pp x) ∧ ζ.2.2.1.length < ζ.1 ∧ ζ.2.2.2.length = (ζ.1 - ζ.2.2.1.length) * 7) (fun (ζ : (Nat) × (Nat) × (List Tx) × (List Value)) => l.length - ζ.1) ((i + 1, i, l.take i, Ym l[i])) (⟨hi, by simp; omega, hK1.symm, by simp; omega, by simp; omega⟩) Zm Zm rfl tk ?_
   rintro ⟨j, kl, K, M⟩ hI
   try simp only [List.cons_append, List.nil_append, List.append_assoc, List.append_eq] at hI ⊢
   try dsimp only at hI ⊢
   obtain ⟨hj, rfl, hK, hKj, hM⟩ := hI
   have hKl := hfl K
   by_cases hlt : j < l.length
   ·have hd := List.drop_eq_getElem_cons hlt
    have hx1 : (l.take (j + 1)).filter (fun x => !pp x) = K ++ (if pp l[j] then [] else [l[j]]) := by
     rw [List.take_succ_eq_append_getElem hlt, List.filter_append, ← hK, List.filter_cons]
     cases pp l[j] <;> simp
    have hp0 := hp ρ' (Hp.le_refl ρ') _ (List.getElem_mem hlt)
    rw [hd]
    generalize l[j] = x at *
    obtain ⟨M1, M2, rfl, hM1⟩ : ∃ M1 M2 : List Value, M = M1 ++ M2 ∧ M1.length = 7 := ⟨M.take 7, M.drop 7, (List.take_append_drop _ _).symm, by rw [List.length_take]; omega⟩
    simp only [List.map_cons, List.flatten_cons, List.append_assoc]
    have hM2 : M2.length = (j - K.length) * 7 - 7 := by rw [List.length_append] at hM; omega
    have hcell : ((K.map Ym).flatten ++ (M1 ++ (M2 ++ (Ym x ++ (((l.drop (j + 1)).map Ym).flatten ++ sp))))).drop (0 + j * 7) = Ym x ++ (((l.drop (j + 1)).map Ym).flatten ++ sp) := by
     rw [← List.append_assoc M1, ← List.append_assoc]
     refine List.drop_left' ?_
     simp only [List.length_append, hKl]; omega
    have hcc : (((K.map Ym).flatten ++ (M1 ++ (M2 ++ (Ym x ++ (((l.drop (j + 1)).map Ym).flatten ++ sp))))).drop (0 + j * 7)).take 7 = Ym x := by rw [hcell]; rfl
    have hfit : 0 + j * 7 + 7 ≤ ((K.map Ym).flatten ++ (M1 ++ (M2 ++ (Ym x ++ (((l.drop (j + 1)).map Ym).flatten ++ sp))))).length := by
     have := congrArg List.length hcell
     simp only [List.length_drop, List.length_append, show (Ym x).length = 7 from rfl] at this ⊢
     omega
    have hPl : ((K.map Ym).flatten).length = 0 + K.length * 7 := by rw [hKl]; omega
    cases hpx : pp x
    ·rw [hpx] at hp0 hx1
     have hre : (K.map Ym).flatten ++ (Ym x ++ (M2 ++ (Ym x ++ (((l.drop (j + 1)).map Ym).flatten ++ sp)))) = ((K ++ [x]).map Ym).flatten ++ ((M2 ++ Ym x) ++ (((l.drop (j + 1)).map Ym).flatten ++ sp)) := by simp
     (try simp only [kM, kN, kO] at hre)
     repeat' (first | (refine Ze (.tmp 26) ?_; refine qC rfl rfl (hp0) ?_; rintro v ρ' L' hle ⟨rfl, rfl, rfl⟩ <;> (try simp only [kM, kN, kO])) | (refine tl_store_midA (P := _) (l := M1) rfl rfl hPl hM1 rfl rfl ?_) | (refine ZE ?_; refine Zo (Zd rfl) rfl rfl ?_) | (refine Zj ?_; first | (refine Zf ?_; refine qQ ?_) | refine Zn ?_) | refine Zb ?_ | (refine Zi ?_; refine Zv ?_) | (refine Zh ?_; refine Zu ?_) | intro _)
     (try simp only [kM, kN, kO])
     rw [hre]
     have hKn : (K ++ [x]).length = K.length + 1 := by simp
     rw [show ((K.length : Int) + 1) = (((K ++ [x]).length : Nat) : Int) by rw [hKn]; omega]
     refine Zq (j + 1, (K ++ [x]).length, K ++ [x], M2 ++ Ym x) (⟨hlt, rfl, by rw [hx1]; rfl, by dsimp only; omega, by simp only [List.length_append, List.length_singleton, show (Ym x).length = 7 from rfl]; omega⟩) Zm Zm rfl tk inferInstance (by first | omega | (dsimp only; omega))
    ·rw [hpx] at hp0 hx1
     have hre : (K.map Ym).flatten ++ (M1 ++ (M2 ++ (Ym x ++ (((l.drop (j + 1)).map Ym).flatten ++ sp)))) = (K.map Ym).flatten ++ (((M1 ++ M2) ++ Ym x) ++ (((l.drop (j + 1)).map Ym).flatten ++ sp)) := by simp
     (try simp only [kM, kN, kO] at hre)
     repeat' (first | (refine Ze (.tmp 26) ?_; refine qC rfl rfl (hp0) ?_; rintro v ρ' L' hle ⟨rfl, rfl, rfl⟩ <;> (try simp only [kM, kN, kO])) | (refine ZE ?_; refine Zo (Zd rfl) rfl rfl ?_) | (refine Zj ?_; first | (refine Zf ?_; refine qQ ?_) | refine Zn ?_) | refine Zb ?_ | (refine Zi ?_; refine Zv ?_) | (refine Zh ?_; refine Zu ?_) | intro _)
     (try simp only [kM, kN, kO])
     rw [hre]
     refine Zq (j + 1, K.length, K, (M1 ++ M2) ++ Ym x) (⟨hlt, rfl, by rw [hx1]; simp, by dsimp only; omega, by simp only [List.length_append, List.length_singleton, show (Ym x).length = 7 from rfl] at hM ⊢; omega⟩) Zm Zm rfl tk inferInstance (by first | omega | (dsimp only; omega))
   ·obtain rfl : j = l.length := by omega
    rw [List.take_length] at hK
    simp only [List.drop_length, List.map_nil, List.flatten_nil, List.nil_append]
    have hni : ¬ cap = K.length := by omega
    have hst : ∀ ws : List Value, ws.length = (l.length - K.length) * 7 → stc ((K.map Ym).flatten ++ (M ++ sp)) (K.length * 7) ws = (K.map Ym).flatten ++ (ws ++ sp) := fun ws hw => by
     rw [← hKl, stcN_mid (by rw [hw, hM])]
    repeat' (first | (refine ZE ?_; refine Zo (Zd rfl) rfl rfl ?_) | (refine Zj ?_; first | (refine Zf ?_; refine qQ ?_) | refine Zn ?_) | refine Zb ?_ | (refine Zi ?_; refine Zv ?_) | (refine Zh ?_; refine Zu ?_) | intro _)
    simp only [Int.toNat_natCast, if_neg hni, Option.map_some, Xj, Nat.zero_add]
    refine tl_clearN (sz := 7) rfl rfl rfl (by simp only [List.length_append]; omega) (by omega) (fun ws hws => ?_)
    rw [hst ws hws]
    repeat' (first | (refine ZE ?_; refine Zo (Zd rfl) rfl rfl ?_) | (refine Zj ?_; first | (refine Zf ?_; refine qQ ?_) | refine Zn ?_) | refine Zb ?_ | (refine Zi ?_; refine Zv ?_) | (refine Zh ?_; refine Zu ?_) | intro _)
    rw [← hK]
    refine qE (L' := [(b, .cells ⟨(K.map Ym).flatten ++ (ws ++ sp)⟩ 72 (0, 0))] :: X) ⟨rfl, ws ++ sp, ⟨.inr ⟨b, cap, rfl, hKl, ?_, by omega⟩⟩, rfl⟩
    simp only [List.length_append, hws]
    have : ((l.map Ym).flatten).length + sp.length = cap * 7 := h2
    rw [hfl l] at this
    omega
theorem idxU_spec (ρ : Hp) (a : Option Addr) (n c : Nat) (l : List Nat) (h : SIn ρ ZU a n l) (hn : n ≤ 200000000000000) (F : Nat) [hF : Yu Tryz.prog F] (cs : List Value) (X : SH) (pp : Nat → Bool)
  (hp : ∀ x ∈ l, Spec Tryz.prog F (ZU x :: cs) ρ X (fun z ρ' L' => z = .bool (pp x) ∧ ρ' = ρ ∧ L' = X)) :
  Spec Tryz.prog 313 [.slice a n c, .func (.func F) ⟨[]⟩ ⟨cs⟩] ρ X (fun z ρ' L' => z = .int .i64 (Xz pp l) ∧ ρ' = ρ ∧ L' = X) := by
 have hl := h.len
 refine Zg Tryz.func313 rfl rfl rfl fun u R => ?_
 simp only [Zx, List.cons_append, List.nil_append]
 repeat' (first | (refine ZE ?_; refine Zo (Zd rfl) rfl rfl ?_) | (refine Zj ?_; first | (refine Zf ?_; refine qQ ?_) | refine Zn ?_) | refine Zb ?_ | (refine Zi ?_; refine Zv ?_) | (refine Zh ?_; refine Zu ?_) | intro _)
 refine ZB [(0, _), (1, _), (7, _)] (fun (ζ : (Nat)) => [(8, .int .i64 ζ), (4, .int .i64 0)]) (fun (ζ : (Nat)) => ρ) (fun (ζ : (Nat)) => X) (fun (ζ : (Nat)) => ζ ≤ n ∧ ∀ x ∈ l.take ζ, pp x = false) (fun (ζ : (Nat)) => n - ζ) (0) (⟨Nat.zero_le _, by simp⟩) Zm Zm rfl tk ?_
 rintro k hI
 try simp only [List.cons_append, List.nil_append, List.append_assoc, List.append_eq] at hI ⊢
 try dsimp only at hI ⊢
 obtain ⟨hk, hok⟩ := hI
 by_cases hlt : k < n
 ·obtain ⟨b, off, C, T, fr, rfl, hb, hc⟩ := h.get (show k < l.length by omega)
  have hf := fun (e : pp l[k] = true) => idx_found (p := pp) (show k < l.length by omega) e hok
  have ht := fun (e : pp l[k] = false) => take_more (p := fun x => pp x = false) (show k < l.length by omega) e hok
  have hp0 := hp _ (List.getElem_mem (show k < l.length by omega))
  cases hx : pp l[k]
  ·have hok2 := ht hx
   rw [hx] at hp0
   generalize l[k] = x at *
   repeat' (first | (refine Ze (.tmp 11) ?_; refine qC rfl rfl (hp0) ?_; rintro v ρ' L' hle ⟨rfl, rfl, rfl⟩ <;> (try simp only [kM, kN, kO])) | (refine ZE ?_; refine Zo (Zd rfl) rfl rfl ?_) | (refine Zj ?_; first | (refine Zf ?_; refine qQ ?_) | refine Zn ?_) | refine Zb ?_ | (refine Zi ?_; refine Zv ?_) | (refine Zh ?_; refine Zu ?_) | intro _)
   refine Zq (k + 1) (⟨hlt, hok2⟩) Zm Zm rfl tk inferInstance (by first | omega | (dsimp only; omega))
  ·have e := hf hx
   rw [hx] at hp0
   have e2 : Xz pp l = (k : Int) := by unfold Xz; rw [e]
   rw [e2]
   generalize l[k] = x at *
   repeat' (first | (refine Ze (.tmp 11) ?_; refine qC rfl rfl (hp0) ?_; rintro v ρ' L' hle ⟨rfl, rfl, rfl⟩ <;> (try simp only [kM, kN, kO])) | (refine ZE ?_; refine Zo (Zd rfl) rfl rfl ?_) | (refine Zj ?_; first | (refine Zf ?_; refine qQ ?_) | refine Zn ?_) | refine Zb ?_ | (refine Zi ?_; refine Zv ?_) | (refine Zh ?_; refine Zu ?_) | intro _)
   exact qE (L' := _) ⟨rfl, rfl, rfl⟩
 ·have hk2 : k = l.length := by omega
  rw [hk2, List.take_length] at hok
  have e2 : Xz pp l = -1 := by unfold Xz; rw [idx_none hok]
  rw [e2]
  repeat' (first | (refine ZE ?_; refine Zo (Zd rfl) rfl rfl ?_) | (refine Zj ?_; first | (refine Zf ?_; refine qQ ?_) | refine Zn ?_) | refine Zb ?_ | (refine Zi ?_; refine Zv ?_) | (refine Zh ?_; refine Zu ?_) | intro _)
  exact qE (L' := _) ⟨rfl, rfl, rfl⟩
theorem delU_spec (ρ : Hp) (v : Value) (sp : List Value) (l : List Nat) (hl : l.length ≤ 200000000000000) (hown : OwnS v l.length (l.map ZU) sp 1) (F : Nat) [hF : Yu Tryz.prog F] (cs : List Value) (X : SH) (pp : Nat → Bool)
  (hp : ∀ ρ1, ρ.le ρ1 → ∀ x ∈ l, Spec Tryz.prog F (ZU x :: cs) ρ1 X (fun z ρ' L' => z = .bool (pp x) ∧ ρ' = ρ1 ∧ L' = X)) :
  Spec Tryz.prog 291 [v, .func (.func F) ⟨[]⟩ ⟨cs⟩] ρ (ZK v (l.map ZU) sp 24 :: X)
   (fun z ρ' L' => ρ' = ρ ∧ ∃ sp', OwnS z (l.filter (fun x => !pp x)).length ((l.filter (fun x => !pp x)).map ZU) sp' 1 ∧ L' = ZK z ((l.filter (fun x => !pp x)).map ZU) sp' 24 :: X) := by
 have hidx : Spec Tryz.prog 313 [v, .func (.func F) ⟨[]⟩ ⟨cs⟩] ρ ([ZK v (l.map ZU) sp 24] ++ X) (fun z ρ' L' => z = .int .i64 (Xz pp l) ∧ ρ' = ρ ∧ L' = ZK v (l.map ZU) sp 24 :: X) := by
  refine (Spec.thaw (C := [ZK v (l.map ZU) sp 24]) (L := X) (Post := fun z L' => z = .int .i64 (Xz pp l) ∧ L' = X) (fun ρ1 hle hf => ?_)).mono ?_
  ·obtain ⟨a, c, rfl, hc, hA⟩ := hown.sIn (by simpa using hf)
   exact (idxU_spec ρ1 a l.length c l hA hl F cs X pp (hp ρ1 hle)).mono (fun z ρ' L' _ h => ⟨h.2.1, h.1, h.2.2⟩)
  ·rintro z ρ' L' _ ⟨rfl, L2, ⟨rfl, rfl⟩, rfl⟩
   exact ⟨rfl, rfl, rfl⟩
 rcases hown.out with ⟨rfl, h0, h1, rfl⟩ | ⟨b, cap, rfl, h1, h2, h3⟩
 ·have hl0 : l = [] := List.eq_nil_of_length_eq_zero h0
  subst hl0
  have e : Xz pp [] = -1 := rfl
  rw [e] at hidx
  refine Zg Tryz.func291 rfl rfl rfl fun u R => ?_
  simp only [Zx, List.cons_append, List.nil_append] at hidx ⊢
  repeat' (first | (refine Ze (.func 313) ?_; refine qC rfl rfl (hidx) ?_; rintro v ρ' L' hle ⟨rfl, rfl, rfl⟩ <;> (try simp only [kM, kN, kO])) | (refine ZE ?_; refine Zo (Zd rfl) rfl rfl ?_) | (refine Zj ?_; first | (refine Zf ?_; refine qQ ?_) | refine Zn ?_) | refine Zb ?_ | (refine Zi ?_; refine Zv ?_) | (refine Zh ?_; refine Zu ?_) | intro _)
  exact qE (L' := [] :: X) ⟨rfl, [], OwnS.nil 1, rfl⟩
 ·by_cases hall : ∀ x ∈ l, pp x = false
  ·have e : Xz pp l = -1 := by unfold Xz; rw [idx_none hall]
   have hfl : l.filter (fun x => !pp x) = l := List.filter_eq_self.2 (fun x hx => by rw [hall x hx]; rfl)
   rw [e] at hidx
   rw [hfl]
   refine Zg Tryz.func291 rfl rfl rfl fun u R => ?_
   simp only [Zx, List.cons_append, List.nil_append] at hidx ⊢
   repeat' (first | (refine Ze (.func 313) ?_; refine qC rfl rfl (hidx) ?_; rintro v ρ' L' hle ⟨rfl, rfl, rfl⟩ <;> (try simp only [kM, kN, kO])) | (refine ZE ?_; refine Zo (Zd rfl) rfl rfl ?_) | (refine Zj ?_; first | (refine Zf ?_; refine qQ ?_) | refine Zn ?_) | refine Zb ?_ | (refine Zi ?_; refine Zv ?_) | (refine Zh ?_; refine Zu ?_) | intro _)
   exact qE (L' := ZK (.slice (some ⟨b, 0, none⟩) l.length cap) (l.map ZU) sp 24 :: X) ⟨rfl, sp, hown, rfl⟩
  ·obtain ⟨i, hi, hpi, hbef⟩ : ∃ i, ∃ h : i < l.length, pp l[i] = true ∧ ∀ x ∈ l.take i, pp x = false := by
    cases hf : l.findIdx? pp with
    | none => exact absurd (fun x hx => by have := List.findIdx?_eq_none_iff.1 hf x hx; exact this) hall
    | some i =>
     obtain ⟨h1, h2, h3⟩ := List.findIdx?_eq_some_iff_getElem.1 hf
     refine ⟨i, h1, h2, fun x hx => ?_⟩
     obtain ⟨j, hj, rfl⟩ := List.mem_take_iff_getElem.1 hx
     have := h3 j (by omega)
     simpa using this
   have e : Xz pp l = (i : Int) := by unfold Xz; rw [idx_found (p := pp) hi hpi hbef]
   have hK0 : (l.take i).filter (fun x => !pp x) = l.take i := List.filter_eq_self.2 (fun x hx => by rw [hbef x hx]; rfl)
   have hK1 : (l.take (i + 1)).filter (fun x => !pp x) = l.take i := by
    rw [List.take_succ_eq_append_getElem hi, List.filter_append, hK0, List.filter_cons, if_neg (by simp [hpi])]; simp
   have hfl : ∀ m : List Nat, (m.map ZU).length = m.length * 1 := fun m => by simp
   have hC : ∀ xs sp, ZK (.slice (some ⟨b, 0, none⟩) l.length cap) xs sp 24 = [(b, .cells ⟨xs ++ sp⟩ 24 (0, 0))] := fun _ _ => rfl
   have hsplit : l.map ZU ++ sp = (l.take i).map ZU ++ ([ZU l[i]] ++ ((l.drop (i + 1)).map ZU ++ sp)) := by
    have : l = l.take i ++ l[i] :: l.drop (i + 1) := by rw [← List.drop_eq_getElem_cons hi, List.take_append_drop]
    have h2 : ∀ (A : List Nat) (x : Nat) (B : List Nat), (A ++ x :: B).map ZU ++ sp = A.map ZU ++ ([ZU x] ++ (B.map ZU ++ sp)) := fun A x B => by simp
    exact (congrArg (fun l => l.map ZU ++ sp) this).trans (h2 _ _ _)
   rw [hC, e] at hidx
   rw [hC]
   refine Zg Tryz.func291 rfl rfl rfl fun u R => ?_
   simp only [Zx, List.cons_append, List.nil_append] at hidx ⊢
   repeat' (first | (refine Ze (.func 313) ?_; refine qC rfl rfl (hidx) ?_; rintro v ρ' L' hle ⟨rfl, rfl, rfl⟩ <;> (try simp only [kM, kN, kO])) | (refine ZE ?_; refine Zo (Zd rfl) rfl rfl ?_) | (refine Zj ?_; first | (refine Zf ?_; refine qQ ?_) | refine Zn ?_) | refine Zb ?_ | (refine Zi ?_; refine Zv ?_) | (refine Zh ?_; refine Zu ?_) | intro _)
   rw [hsplit]
   refine ZB [(0, _), (1, _), (4, _)] (fun (ζ : (Nat) × (Nat) × (List Nat) × (List Value)) => [(5, .int .i64 ζ.2.1), (6, .int .i64 ζ.1)]) (fun (ζ : (Nat) × (Nat) × (List Nat) × (List Value)) => ρ') (fun (ζ : (Nat) × (Nat) × (List Nat) × (List Value)) => [(b, .cells ⟨ζ.2.2.1.map ZU ++ (ζ.2.2.2 ++ ((l.drop ζ.1).map ZU ++ sp))⟩ 24 (0, 0))] :: X) (fun (ζ : (Nat) × (Nat) × (List Nat) × (List Value)) => ζ.1 ≤ l.length ∧ ζ.2.1 = ζ.2.2.1.length ∧ ζ.2.2.1 = (l.take ζ.1).filter (fun x => !pp x) ∧ ζ.2.2.1.length < ζ.1 ∧ ζ.2.2.2.length = (ζ.1 - ζ.2.2.1.length) * 1) (fun (ζ : (Nat) × (Nat) × (List Nat) × (List Value)) => l.length - ζ.1) ((i + 1, i, l.take i, [ZU l[i]])) (⟨hi, by simp; omega, hK1.symm, by simp; omega, by simp; omega⟩) Zm Zm rfl tk ?_
   rintro ⟨j, kl, K, M⟩ hI
   try simp only [List.cons_append, List.nil_append, List.append_assoc, List.append_eq] at hI ⊢
   try dsimp only at hI ⊢
   obtain ⟨hj, rfl, hK, hKj, hM⟩ := hI
   have hKl := hfl K
   by_cases hlt : j < l.length
   ·have hd := List.drop_eq_getElem_cons hlt
    have hx1 : (l.take (j + 1)).filter (fun x => !pp x) = K ++ (if pp l[j] then [] else [l[j]]) := by
     rw [List.take_succ_eq_append_getElem hlt, List.filter_append, ← hK, List.filter_cons]
     cases pp l[j] <;> simp
    have hp0 := hp ρ' (Hp.le_refl ρ') _ (List.getElem_mem hlt)
    rw [hd]
    generalize l[j] = x at *
    obtain ⟨M1, M2, rfl, hM1⟩ : ∃ M1 M2 : List Value, M = M1 ++ M2 ∧ M1.length = 1 := ⟨M.take 1, M.drop 1, (List.take_append_drop _ _).symm, by rw [List.length_take]; omega⟩
    simp only [List.map_cons, List.flatten_cons, List.append_assoc]
    have hM2 : M2.length = (j - K.length) * 1 - 1 := by rw [List.length_append] at hM; omega
    have hcell : (K.map ZU ++ (M1 ++ (M2 ++ (ZU x :: ((l.drop (j + 1)).map ZU ++ sp))))).drop (0 + j * 1) = ZU x :: ((l.drop (j + 1)).map ZU ++ sp) := by
     rw [← List.append_assoc M1, ← List.append_assoc]
     refine List.drop_left' ?_
     simp only [List.length_append, hKl]; omega
    have hcc : (K.map ZU ++ (M1 ++ (M2 ++ (ZU x :: ((l.drop (j + 1)).map ZU ++ sp)))))[0 + j * 1]? = some (ZU x) := by
     have := congrArg (fun z => z[0]?) hcell
     simpa using this
    have hPl : (K.map ZU).length = 0 + K.length * 1 := by rw [hKl]; omega
    cases hpx : pp x
    ·rw [hpx] at hp0 hx1
     have hre : K.map ZU ++ ([ZU x] ++ (M2 ++ (ZU x :: ((l.drop (j + 1)).map ZU ++ sp)))) = (K ++ [x]).map ZU ++ ((M2 ++ [ZU x]) ++ ((l.drop (j + 1)).map ZU ++ sp)) := by simp
     (try simp only [kM, kN, kO] at hre)
     repeat' (first | (refine Ze (.tmp 26) ?_; refine qC rfl rfl (hp0) ?_; rintro v ρ' L' hle ⟨rfl, rfl, rfl⟩ <;> (try simp only [kM, kN, kO])) | (obtain ⟨m1, rfl⟩ : ∃ m1, M1 = [m1] := List.length_eq_one_iff.1 hM1; refine tl_store_mid (o := 0 + K.length * 1) (d := 0) (P := _) (l := [m1]) rfl rfl hPl rfl ?_) | (refine ZE ?_; refine Zo (Zd rfl) rfl rfl ?_) | (refine Zj ?_; first | (refine Zf ?_; refine qQ ?_) | refine Zn ?_) | refine Zb ?_ | (refine Zi ?_; refine Zv ?_) | (refine Zh ?_; refine Zu ?_) | intro _)
     (try simp only [kM, kN, kO])
     rw [hre]
     have hKn : (K ++ [x]).length = K.length + 1 := by simp
     rw [show ((K.length : Int) + 1) = (((K ++ [x]).length : Nat) : Int) by rw [hKn]; omega]
     refine Zq (j + 1, (K ++ [x]).length, K ++ [x], M2 ++ [ZU x]) (⟨hlt, rfl, by rw [hx1]; rfl, by dsimp only; omega, by simp only [List.length_append, List.length_singleton]; omega⟩) Zm Zm rfl tk inferInstance (by first | omega | (dsimp only; omega))
    ·rw [hpx] at hp0 hx1
     have hre : K.map ZU ++ (M1 ++ (M2 ++ (ZU x :: ((l.drop (j + 1)).map ZU ++ sp)))) = K.map ZU ++ (((M1 ++ M2) ++ [ZU x]) ++ ((l.drop (j + 1)).map ZU ++ sp)) := by simp
     (try simp only [kM, kN, kO] at hre)
     repeat' (first | (refine Ze (.tmp 26) ?_; refine qC rfl rfl (hp0) ?_; rintro v ρ' L' hle ⟨rfl, rfl, rfl⟩ <;> (try simp only [kM, kN, kO])) | (refine ZE ?_; refine Zo (Zd rfl) rfl rfl ?_) | (refine Zj ?_; first | (refine Zf ?_; refine qQ ?_) | refine Zn ?_) | refine Zb ?_ | (refine Zi ?_; refine Zv ?_) | (refine Zh ?_; refine Zu ?_) | intro _)
     (try simp only [kM, kN, kO])
     rw [hre]
     refine Zq (j + 1, K.length, K, (M1 ++ M2) ++ [ZU x]) (⟨hlt, rfl, by rw [hx1]; simp, by dsimp only; omega, by simp only [List.length_append, List.length_singleton] at hM ⊢; omega⟩) Zm Zm rfl tk inferInstance (by first | omega | (dsimp only; omega))
   ·obtain rfl : j = l.length := by omega
    rw [List.take_length] at hK
    simp only [List.drop_length, List.map_nil, List.flatten_nil, List.nil_append]
    have hni : ¬ cap = K.length := by omega
    have hst : ∀ ws : List Value, ws.length = (l.length - K.length) * 1 → stc (K.map ZU ++ (M ++ sp)) (K.length * 1) ws = K.map ZU ++ (ws ++ sp) := fun ws hw => by
     rw [← hKl, stcN_mid (by rw [hw, hM])]
    repeat' (first | (refine ZE ?_; refine Zo (Zd rfl) rfl rfl ?_) | (refine Zj ?_; first | (refine Zf ?_; refine qQ ?_) | refine Zn ?_) | refine Zb ?_ | (refine Zi ?_; refine Zv ?_) | (refine Zh ?_; refine Zu ?_) | intro _)
    simp only [Int.toNat_natCast, if_neg hni, Option.map_some, Xj, Nat.zero_add]
    refine tl_clearN (sz := 1) rfl rfl rfl (by simp only [List.length_append]; omega) (by omega) (fun ws hws => ?_)
    rw [hst ws hws]
    repeat' (first | (refine ZE ?_; refine Zo (Zd rfl) rfl rfl ?_) | (refine Zj ?_; first | (refine Zf ?_; refine qQ ?_) | refine Zn ?_) | refine Zb ?_ | (refine Zi ?_; refine Zv ?_) | (refine Zh ?_; refine Zu ?_) | intro _)
    rw [← hK]
    refine qE (L' := [(b, .cells ⟨K.map ZU ++ (ws ++ sp)⟩ 24 (0, 0))] :: X) ⟨rfl, ws ++ sp, ⟨.inr ⟨b, cap, rfl, hKl, ?_, by omega⟩⟩, rfl⟩
    simp only [List.length_append, hws]
    have : (l.map ZU).length + sp.length = cap * 1 := h2
    rw [hfl l] at this
    omega
theorem XV {α : Type} {g : α → List Value} (hg : ∀ x, (g x).all (·.oneCell') = true) (l : List α) : ((l.map g).flatten).all (·.oneCell') = true := by
 induction l with
 | nil => rfl
 | cons a r ih => simp only [List.map_cons, List.flatten_cons, List.all_append, Bool.and_eq_true]; exact ⟨hg a, ih⟩
theorem cloneX_spec (ρ : Hp) (a : Option Addr) (n c : Nat) (l : List Tx) (h : AIn ρ 7 Ym a n l) (hn : n ≤ 1200000000000) (hc : n ≤ c) : Spec Tryz.prog 212 [.slice a n c] ρ []
  (fun v ρ' L' => ρ' = ρ ∧ ∃ sp, OwnS v l.length ((l.map Ym).flatten) sp 7 ∧ L' = [ZK v ((l.map Ym).flatten) sp 72]) := by
 have hl := h.len
 cases a with
 | none =>
  have hl0 : l = [] := by
   by_cases h0 : 0 < l.length
   ·obtain ⟨b, off, C, T, fr, h, _⟩ := h.get h0
    cases h
   ·exact List.eq_nil_of_length_eq_zero (by omega)
  subst hl0
  refine Zg Tryz.func212 rfl rfl rfl fun u R => ?_
  simp only [Zx, List.cons_append, List.nil_append]
  repeat' (first | (refine ZE ?_; refine Zo (Zd rfl) rfl rfl ?_) | (refine Zj ?_; first | (refine Zf ?_; refine qQ ?_) | refine Zn ?_) | refine Zb ?_ | (refine Zi ?_; refine Zv ?_) | (refine Zh ?_; refine Zu ?_) | intro _)
  exact qE (L' := [[]]) ⟨rfl, [], OwnS.nil 7, rfl⟩
 | some ad =>
  refine Zg Tryz.func212 rfl rfl rfl fun u R => ?_
  simp only [Zx, List.cons_append, List.nil_append]
  repeat' (first | (refine ZE ?_; refine Zo (Zd rfl) rfl rfl ?_) | (refine Zj ?_; first | (refine Zf ?_; refine qQ ?_) | refine Zn ?_) | refine Zb ?_ | (refine Zi ?_; refine Zv ?_) | (refine Zh ?_; refine Zu ?_) | intro _)
  rename_i bx
  refine ZV (n := 0) (xs := []) (sp := []) (ys := ((l.map Ym).flatten)) (sz := 7) rfl rfl (OwnS.zero' _ 7) (hR := ZH) h.srcV (by rw [YX Wy]; omega) (XV txV_one l) (by decide) rfl (by omega) (by omega) rfl (fun v' sp' hown' => ?_)
  simp only [Nat.zero_add, List.nil_append] at hown' ⊢
  repeat' (first | (refine ZE ?_; refine Zo (Zd rfl) rfl rfl ?_) | (refine Zj ?_; first | (refine Zf ?_; refine qQ ?_) | refine Zn ?_) | refine Zb ?_ | (refine Zi ?_; refine Zv ?_) | (refine Zh ?_; refine Zu ?_) | intro _)
  rw [← hl] at hown'
  exact qE ⟨rfl, sp', hown', rfl⟩
theorem cloneL_spec (ρ : Hp) (a : Option Addr) (n c : Nat) (l : List Lf) (h : AIn ρ 2 lfV a n l) (hn : n ≤ 1200000000000) (hc : n ≤ c) : Spec Tryz.prog 213 [.slice a n c] ρ []
  (fun v ρ' L' => ρ' = ρ ∧ ∃ sp, OwnS v l.length ((l.map lfV).flatten) sp 2 ∧ L' = [ZK v ((l.map lfV).flatten) sp 74]) := by
 have hl := h.len
 cases a with
 | none =>
  have hl0 : l = [] := by
   by_cases h0 : 0 < l.length
   ·obtain ⟨b, off, C, T, fr, h, _⟩ := h.get h0
    cases h
   ·exact List.eq_nil_of_length_eq_zero (by omega)
  subst hl0
  refine Zg Tryz.func213 rfl rfl rfl fun u R => ?_
  simp only [Zx, List.cons_append, List.nil_append]
  repeat' (first | (refine ZE ?_; refine Zo (Zd rfl) rfl rfl ?_) | (refine Zj ?_; first | (refine Zf ?_; refine qQ ?_) | refine Zn ?_) | refine Zb ?_ | (refine Zi ?_; refine Zv ?_) | (refine Zh ?_; refine Zu ?_) | intro _)
  exact qE (L' := [[]]) ⟨rfl, [], OwnS.nil 2, rfl⟩
 | some ad =>
  refine Zg Tryz.func213 rfl rfl rfl fun u R => ?_
  simp only [Zx, List.cons_append, List.nil_append]
  repeat' (first | (refine ZE ?_; refine Zo (Zd rfl) rfl rfl ?_) | (refine Zj ?_; first | (refine Zf ?_; refine qQ ?_) | refine Zn ?_) | refine Zb ?_ | (refine Zi ?_; refine Zv ?_) | (refine Zh ?_; refine Zu ?_) | intro _)
  rename_i bx
  refine ZV (n := 0) (xs := []) (sp := []) (ys := ((l.map lfV).flatten)) (sz := 2) rfl rfl (OwnS.zero' _ 2) (hR := ZH) h.srcV (by rw [YX WA]; omega) (XV (fun _ => rfl) l) (by decide) rfl (by omega) (by omega) rfl (fun v' sp' hown' => ?_)
  simp only [Nat.zero_add, List.nil_append] at hown' ⊢
  repeat' (first | (refine ZE ?_; refine Zo (Zd rfl) rfl rfl ?_) | (refine Zj ?_; first | (refine Zf ?_; refine qQ ?_) | refine Zn ?_) | refine Zb ?_ | (refine Zi ?_; refine Zv ?_) | (refine Zh ?_; refine Zu ?_) | intro _)
  rw [← hl] at hown'
  exact qE ⟨rfl, sp', hown', rfl⟩
theorem cloneU_spec (ρ : Hp) (a : Option Addr) (n c : Nat) (l : List Nat) (h : SIn ρ ZU a n l) (hn : n ≤ 1200000000000) (hc : n ≤ c) : Spec Tryz.prog 214 [.slice a n c] ρ []
  (fun v ρ' L' => ρ' = ρ ∧ ∃ sp, OwnS v l.length (l.map ZU) sp 1 ∧ L' = [ZK v (l.map ZU) sp 24]) := by
 have hl := h.len
 cases a with
 | none =>
  have hl0 : l = [] := by
   by_cases h0 : 0 < l.length
   ·obtain ⟨b, off, C, T, fr, h, _⟩ := h.get h0
    cases h
   ·exact List.eq_nil_of_length_eq_zero (by omega)
  subst hl0
  refine Zg Tryz.func214 rfl rfl rfl fun u R => ?_
  simp only [Zx, List.cons_append, List.nil_append]
  repeat' (first | (refine ZE ?_; refine Zo (Zd rfl) rfl rfl ?_) | (refine Zj ?_; first | (refine Zf ?_; refine qQ ?_) | refine Zn ?_) | refine Zb ?_ | (refine Zi ?_; refine Zv ?_) | (refine Zh ?_; refine Zu ?_) | intro _)
  exact qE (L' := [[]]) ⟨rfl, [], OwnS.nil 1, rfl⟩
 | some ad =>
  refine Zg Tryz.func214 rfl rfl rfl fun u R => ?_
  simp only [Zx, List.cons_append, List.nil_append]
  repeat' (first | (refine ZE ?_; refine Zo (Zd rfl) rfl rfl ?_) | (refine Zj ?_; first | (refine Zf ?_; refine qQ ?_) | refine Zn ?_) | refine Zb ?_ | (refine Zi ?_; refine Zv ?_) | (refine Zh ?_; refine Zu ?_) | intro _)
  rename_i bx
  refine ZV (n := 0) (xs := []) (sp := []) (ys := (l.map ZU)) (sz := 1) rfl rfl (OwnS.zero' _ 1) (hR := ZH) h.srcV (by simp; omega) (by simp [Value.oneCell']) (by decide) rfl (by omega) (by omega) rfl (fun v' sp' hown' => ?_)
  simp only [Nat.zero_add, List.nil_append] at hown' ⊢
  repeat' (first | (refine ZE ?_; refine Zo (Zd rfl) rfl rfl ?_) | (refine Zj ?_; first | (refine Zf ?_; refine qQ ?_) | refine Zn ?_) | refine Zb ?_ | (refine Zi ?_; refine Zv ?_) | (refine Zh ?_; refine Zu ?_) | intro _)
  rw [← hl] at hown'
  exact qE ⟨rfl, sp', hown', rfl⟩
structure OT where
 x : Tx
 ss : List Value
 ms : List Value
abbrev WE (x : Tx) (ss : List Value) : List (Nat × Obj) := ZK (.slice x.sv.a x.sv.n x.sv.c) ((x.stack.map lfV).flatten) ss 74
abbrev Wv (x : Tx) (ms : List Value) : List (Nat × Obj) := ZK (.slice x.mv.a x.mv.n x.mv.c) (x.marks.map ZU) ms 24
structure OwnX (x : Tx) (ss ms : List Value) : Prop where
 s : OwnS (.slice x.sv.a x.sv.n x.sv.c) x.stack.length ((x.stack.map lfV).flatten) ss 2
 m : OwnS (.slice x.mv.a x.mv.n x.mv.c) x.marks.length (x.marks.map ZU) ms 1
theorem OwnS.nn {a : Option Addr} {n c m sz : Nat} {xs sp : List Value} (h : OwnS (.slice a n c) m xs sp sz) : n = m ∧ m ≤ c := by
 rcases h.out with ⟨e, h1, _, _⟩ | ⟨b, cap, e, _, _, h3⟩
 ·have := Value.slice.inj e; omega
 ·have := Value.slice.inj e; omega
def OT.Own (o : OT) : Prop := OwnX o.x o.ss o.ms
def stC (os : List OT) : List (Nat × Obj) := os.flatMap (fun o => WE o.x o.ss ++ Wv o.x o.ms)
def txF (os : List OT) : List Value := ((os.map OT.x).map Ym).flatten
theorem WN (a b : List OT) : stC (a ++ b) = stC a ++ stC b := by unfold stC; rw [List.flatMap_append]
theorem stC_one (o : OT) : stC [o] = WE o.x o.ss ++ Wv o.x o.ms := by simp [stC]
theorem Wi (a b : List OT) : txF (a ++ b) = txF a ++ txF b := by simp [txF]
theorem txF_one (o : OT) : txF [o] = Ym o.x := by simp [txF]
theorem WL (os : List OT) : (txF os).length = os.length * 7 := by
 have := YX Wy (os.map OT.x)
 rw [List.length_map] at this
 exact this
abbrev YQ (cb : Nat) (next : Int) (v : Value) (rv : RV) (r : Rc) (t : Option Addr) : List (Nat × Obj) := [(cb, .cells ⟨[.int .i64 next, v, .int .i64 r.kind, .int .u64 r.lsn, .int .i64 r.txn, .int .u64 r.prev, .int .u64 r.next, .slice rv.i.a rv.i.n rv.i.c, .slice rv.s.a rv.s.n rv.s.c, .int .i64 r.nextTxn, .slice rv.t.a rv.t.n rv.t.c, .slice rv.d.a rv.d.n rv.d.c, .pointer t]⟩ 253 (0, 0))]
abbrev noRV : RV := ⟨⟨none, 0, 0⟩, ⟨none, 0, 0⟩, ⟨none, 0, 0⟩, ⟨none, 0, 0⟩⟩
structure OwnR (vv : Value) (sp : List Value) (os : List OT) (txns : List TxP) : Prop where
 own : OwnS vv os.length (txF os) sp 7
 each : ∀ o ∈ os, o.Own
 says : os.map (fun o => o.x.p) = txns
abbrev Xi (vv : Value) (sp : List Value) (os : List OT) : SH := [ZK vv (txF os) sp 72, stC os]
theorem OwnR.len {vv sp os txns} (h : OwnR vv sp os txns) : os.length = txns.length := by rw [← h.says, List.length_map]
theorem OwnX.tin {ρ : Hp} {x : Tx} {ss ms : List Value} (h : OwnX x ss ms) (h1 : ∀ p ∈ WE x ss, ρ p.1 = some p.2) (h2 : ∀ p ∈ Wv x ms, ρ p.1 = some p.2) (hs : x.stack.length ≤ 200000000000000) (hm : x.marks.length ≤ 200000000000000) : Tx.In ρ x := by
 obtain ⟨a, c, e, hc, hA⟩ := h.s.aIn rfl (fun _ _ => rfl) h1
 obtain ⟨a2, c2, e2, hc2, hA2⟩ := h.m.sIn h2
 have f1 := Value.slice.inj e
 have f2 := Value.slice.inj e2
 obtain ⟨num, st, fi, la, un, sk, mk, ⟨sa, sn, sc⟩, ⟨ma, mn, mc⟩⟩ := x
 dsimp only at *
 obtain ⟨rfl, rfl, rfl⟩ := f1
 obtain ⟨rfl, rfl, rfl⟩ := f2
 exact ⟨hA, hA2, hs, hm, hc, hc2⟩
theorem stC_mem {ρ : Hp} {os : List OT} (h : ∀ p ∈ stC os, ρ p.1 = some p.2) {o : OT} (ho : o ∈ os) : (∀ p ∈ WE o.x o.ss, ρ p.1 = some p.2) ∧ (∀ p ∈ Wv o.x o.ms, ρ p.1 = some p.2) :=
 ⟨fun p hp => h p (List.mem_flatMap.2 ⟨o, ho, List.mem_append_left _ hp⟩), fun p hp => h p (List.mem_flatMap.2 ⟨o, ho, List.mem_append_right _ hp⟩)⟩
theorem OwnR.frozen {ρ : Hp} {vv sp os txns} (h : OwnR vv sp os txns) (hn : txns.length ≤ 1000000) (hb : ∀ t ∈ txns, t.stack.length ≤ 200000000000000 ∧ t.marks.length ≤ 200000000000000) (h1 : ∀ p ∈ ZK vv (txF os) sp 72, ρ p.1 = some p.2) (h2 : ∀ p ∈ stC os, ρ p.1 = some p.2) (next : Int) :
  ∃ (v : SV) (r : Ros), vv = .slice v.a v.n v.c ∧ RosIn ρ v r ∧ r.p = ⟨next, txns⟩ ∧ r.next = next := by
 have hl := h.len
 have ho : OwnS vv os.length (((os.map OT.x).map Ym).flatten) sp 7 := h.own
 obtain ⟨a, c, e, hc, hA⟩ := ho.aIn (by simp) (fun x _ => Wy x) h1
 refine ⟨⟨a, os.length, c⟩, ⟨next, os.map OT.x⟩, e, ⟨⟨hA, by show os.length ≤ 1000000; omega, hc⟩, fun x hx => ?_⟩, ?_, rfl⟩
 ·obtain ⟨o, hm, rfl⟩ := List.mem_map.1 hx
  obtain ⟨g1, g2⟩ := stC_mem h2 hm
  have := hb o.x.p (by rw [← h.says]; exact List.mem_map.2 ⟨o, hm, rfl⟩)
  exact (h.each o hm).tin g1 g2 this.1 this.2
 ·show (⟨next, (os.map OT.x).map Tx.p⟩ : Yr) = _
  rw [List.map_map, ← h.says]; rfl
theorem pair_bound {l : List Nat} : ∀ {lo hi : Nat}, l.Pairwise (· < ·) → (∀ x ∈ l, lo < x ∧ x ≤ hi) → l.length ≤ hi - lo := by
 induction l with
 | nil => intro _ _ _ _; simp
 | cons a r ih =>
  intro lo hi h hb
  rw [List.pairwise_cons] at h
  have ha := hb a (by simp)
  have := ih (lo := a) (hi := hi) h.2 (fun x hx => ⟨h.1 x hx, (hb x (by simp [hx])).2⟩)
  rw [List.length_cons]; omega
theorem TxG.sl {t : TxP} (h : TxG t) : t.stack.length ≤ 1099511627776 := by
 have h1 : (t.stack.map Lf.lsn).Pairwise (· < ·) := List.pairwise_map.2 h.so
 have h2 := pair_bound (lo := t.first) (hi := t.undo) h1 (fun x hx => by
  obtain ⟨s, hs, rfl⟩ := List.mem_map.1 hx
  exact ⟨(h.st s hs).1, (h.st s hs).2.1⟩)
 rw [List.length_map] at h2
 have := h.ul
 have := h.lm
 omega
theorem RosG.bounds {p : Yr} (h : RosG p) : ∀ t ∈ p.txns, t.stack.length ≤ 200000000000000 ∧ t.marks.length ≤ 200000000000000 := fun t ht => by
 have := (h.tx t ht).2.2
 have h1 := this.sl
 have h2 := this.ml
 omega
theorem rwith_bad (ρ : Hp) (v : SV) (r : Ros) (h : RosIn ρ v r) (hok : rosOk r = false) (F : Nat) (cs : List Value) (X : SH) :
  Spec Tryz.prog 139 [.agg ⟨Yh v r⟩, .func (.func F) ⟨[]⟩ ⟨cs⟩] ρ X (fun z ρ' L' => ρ' = ρ ∧ z = .tuple ⟨[.agg ⟨[.int .i64 0, .slice none 0 0]⟩, .int .i64 280]⟩ ∧ L' = X) := by
 have hck := roscheck_spec ρ v r h
 rw [hok] at hck
 simp only [Bool.false_eq_true, if_false] at hck
 refine Zg Tryz.func139 rfl rfl rfl fun u R => ?_
 simp only [Zx, List.cons_append, List.nil_append]
 repeat' (first | (refine Ze (.func 42) ?_; refine qC rfl rfl (hck) ?_; rintro v ρ' L' hle ⟨rfl, rfl, rfl⟩ <;> (try simp only [kM, kN, kO])) | (refine ZE ?_; refine Zo (Zd rfl) rfl rfl ?_) | (refine Zj ?_; first | (refine Zf ?_; refine qQ ?_) | refine Zn ?_) | refine Zb ?_ | (refine Zi ?_; refine Zv ?_) | (refine Zh ?_; refine Zu ?_) | intro _)
 exact qE (L' := X) ⟨rfl, rfl, rfl⟩
def DoR (e : Int) (next' : Int) (txns' : List TxP) (X' : SH) (cb : Nat) (ρ1 : Hp) (z : Value) (ρ' : Hp) (L' : SH) : Prop :=
 ρ1.le ρ' ∧ z = .int .i64 e ∧ ((e ≠ 0 ∧ ∃ G : SH, L' = G ++ X') ∨ (e = 0 ∧ ∃ vv' sp' os' rv x tp, OwnR vv' sp' os' txns' ∧ L' = YQ cb next' vv' rv x tp :: (Xi vv' sp' os' ++ X')))
theorem rwith_spec (ρ : Hp) (v : SV) (r : Ros) (h : RosIn ρ v r) (hok : rosOk r = true) (F : Nat) [hF : Yu Tryz.prog F] (cs : List Value) (X X' : SH) (e : Int) (next' : Int) (txns' : List TxP)
  (hdo : ∀ ρ1, ρ.le ρ1 → ∀ cb vv sp os, OwnR vv sp os r.p.txns → Spec Tryz.prog F (.pointer (some ⟨cb, 0, none⟩) :: cs) ρ1 (YQ cb r.next vv noRV zeroRc none :: (Xi vv sp os ++ X)) (DoR e next' txns' X' cb ρ1)) :
  Spec Tryz.prog 139 [.agg ⟨Yh v r⟩, .func (.func F) ⟨[]⟩ ⟨cs⟩] ρ X
   (fun z ρ' L' => ρ.le ρ' ∧ ((e ≠ 0 ∧ z = .tuple ⟨[.agg ⟨[.int .i64 0, .slice none 0 0]⟩, .int .i64 e]⟩ ∧ L' = X') ∨ (e = 0 ∧ ∃ vv' sp' os', OwnR vv' sp' os' txns' ∧ z = .tuple ⟨[.agg ⟨[.int .i64 next', vv']⟩, .int .i64 0]⟩ ∧ L' = Xi vv' sp' os' ++ X'))) := by
 have hck := roscheck_spec ρ v r h
 rw [hok] at hck
 simp only [if_true] at hck
 have hl := h.at'.at'.len
 have hbig := h.at'.big
 have hcap := h.at'.cap
 have hG : RosG r.p := WP.1 (by rw [rosOk_p]; exact hok)
 have h8 := hG.len
 have hpl : r.p.txns.length = r.txns.length := by simp [Ros.p]
 have hcl := cloneX_spec ρ v.a v.n v.c r.txns h.at'.at' (by omega) hcap
 refine Zg Tryz.func139 rfl rfl rfl fun u R => ?_
 simp only [Zx, List.cons_append, List.nil_append]
 repeat' (first | (refine Ze (.func 42) ?_; refine qC rfl rfl (hck) ?_; rintro v ρ' L' hle ⟨rfl, rfl, rfl⟩ <;> (try simp only [kM, kN, kO])) | (refine ZE ?_; refine Zo (Zd rfl) rfl rfl ?_) | (refine Zj ?_; first | (refine Zf ?_; refine qQ ?_) | refine Zn ?_) | refine Zb ?_ | (refine Zi ?_; refine Zv ?_) | (refine Zh ?_; refine Zu ?_) | intro _)
 refine ZD (Zs _ _ _) ZF ?_
 all_goals (refine ZS 0 ?_; refine ZX 1 ?_; refine ZS 2 ?_; refine ZX 3 ?_)
 all_goals (refine Zp (i := 4) ?_; ((try refine Zk ?_); (first | (refine Ze (.func 212) ?_; refine qC rfl rfl (hcl) ?_; rintro v ρ' L' hle ⟨rfl, sp, hown, rfl⟩ <;> (try simp only [kM, kN, kO]); obtain ⟨va, vc, rfl, hvc⟩ := hown.slice) | (refine Zn ?_; try intro _)) <;> ((try simp only [kM, kN, kO]); refine Zb ?_; refine Zl ?_)))
 all_goals refine rBu 5 ?_ (y := fun _ _ => Zd rfl)
 all_goals refine rBu 6 ?_ (y := fun _ _ => Zd rfl)
 all_goals (refine Zp (i := 7) ?_; ((try refine Zk ?_); (first | (refine Zn ?_; try intro _)) <;> ((try simp only [kM, kN, kO]); refine Zb ?_; refine Zl ?_)))
 all_goals (refine ZO ?_; refine rAs 8 ?_; refine ZI ?_)
 repeat' (first | (refine ZE ?_; refine Zo (Zd rfl) rfl rfl ?_) | (refine Zj ?_; first | (refine Zf ?_; refine qQ ?_) | refine Zn ?_) | refine Zb ?_ | (refine Zi ?_; refine Zv ?_) | (refine Zh ?_; refine Zu ?_) | intro _)
 rename_i cb
 rw [hl]
 rw [hl] at hown
 refine ZB [(1, _), (4, _), (5, _), (7, _), (30, _)] (fun (ζ : (Nat) × (List OT)) => [(31, .int .i64 ζ.1)]) (fun (ζ : (Nat) × (List OT)) => ρ') (fun (ζ : (Nat) × (List OT)) => [YQ cb r.next (.slice va v.n vc) noRV zeroRc none, ZK (.slice va v.n vc) (txF ζ.2 ++ ((r.txns.drop ζ.1).map Ym).flatten) sp 72, stC ζ.2]) (fun (ζ : (Nat) × (List OT)) => ζ.1 ≤ v.n ∧ ζ.2.length = ζ.1 ∧ (∀ o ∈ ζ.2, o.Own) ∧ ζ.2.map (fun o => o.x.p) = (r.txns.take ζ.1).map Tx.p ∧ OwnS (.slice va v.n vc) v.n (txF ζ.2 ++ ((r.txns.drop ζ.1).map Ym).flatten) sp 7) (fun (ζ : (Nat) × (List OT)) => v.n - ζ.1) ((0, [])) (⟨Nat.zero_le _, rfl, by simp, rfl, hown⟩) Zm Zm rfl tk ?_
 rintro ⟨k, os⟩ hI
 try simp only [List.cons_append, List.nil_append, List.append_assoc, List.append_eq] at hI ⊢
 try dsimp only at hI ⊢
 obtain ⟨hk, hol, hoo, hop, how⟩ := hI
 by_cases hlt : k < v.n
 ·rcases how.out with ⟨e0, e1, _, _⟩ | ⟨b, cap, e0, e1, e2, e3⟩
  ·omega
  ·cases e0
   have hx := List.drop_eq_getElem_cons (show k < r.txns.length by omega)
   have hx2 : (r.txns.take (k + 1)).map Tx.p = (r.txns.take k).map Tx.p ++ [(r.txns[k]'(by omega)).p] := by rw [List.take_succ_eq_append_getElem (by omega), List.map_append]; rfl
   have hin := h.tx _ (List.getElem_mem (show k < r.txns.length by omega))
   have hxg : TxG (r.txns[k]'(by omega)).p := (hG.tx _ (List.mem_map.2 ⟨_, List.getElem_mem (show k < r.txns.length by omega), rfl⟩)).2.2
   generalize r.txns[k]'(by omega) = x at *
   have hsl := hxg.sl
   have hml := hxg.ml
   have hs1 := hin.s.len
   have hm1 := hin.m.len
   simp only [Tx.p] at hsl hml
   have hPl : (txF os).length = 0 + k * 7 := by rw [WL, hol]; omega
   have hCe : ZK (.slice (some ⟨b, 0, none⟩) v.n vc) (txF os ++ ((r.txns.drop k).map Ym).flatten) sp 72 = [(b, .cells ⟨txF os ++ (Ym x ++ (((r.txns.drop (k + 1)).map Ym).flatten ++ sp))⟩ 72 (0, 0))] := by
    rw [hx]
    show [(b, Obj.cells ⟨(txF os ++ ((x :: r.txns.drop (k + 1)).map Ym).flatten) ++ sp⟩ 72 (0, 0))] = _
    simp only [List.map_cons, List.flatten_cons, List.append_assoc]
   simp only [List.cons_append, List.nil_append] at hCe
   rw [hCe]
   have hg5 : (txF os ++ (Ym x ++ (((r.txns.drop (k + 1)).map Ym).flatten ++ sp)))[0 + k * 7 + 5]? = some (.slice x.sv.a x.sv.n x.sv.c) := Wp hPl rfl
   have hg6 : (txF os ++ (Ym x ++ (((r.txns.drop (k + 1)).map Ym).flatten ++ sp)))[0 + k * 7 + 6]? = some (.slice x.mv.a x.mv.n x.mv.c) := Wp hPl rfl
   have hc1 := cloneL_spec ρ' x.sv.a x.sv.n x.sv.c x.stack hin.s (by omega) hin.sc
   have hc2 := cloneU_spec ρ' x.mv.a x.mv.n x.mv.c x.marks hin.m (by omega) hin.mc
   repeat' (first | (refine ZE ?_; refine Zo (Zd rfl) rfl rfl ?_) | (refine Zj ?_; first | (refine Zf ?_; refine qQ ?_) | refine Zn ?_) | refine Zb ?_ | (refine Zi ?_; refine Zv ?_) | (refine Zh ?_; refine Zu ?_) | intro _)
   refine ZD (Zs _ _ ([])) (Zz (hT := tk) (Hp.le_refl _)) ?_
   all_goals (refine ZT 0 ?_; refine ZT 2 ?_; refine rNc 3 ?_; refine ZS 4 ?_; refine ZT 7 ?_; refine rNc 8 ?_; refine ZS 9 ?_)
   all_goals (refine rStep3 (i := 1) (j := 5) (k := 10) ?_ ?_ ?_ <;> ((try refine Zk ?_); (first | (refine Ze (.func 213) ?_; refine qC rfl rfl (hc1) ?_; rintro v ρ' L' hle ⟨rfl, s1, o1, rfl⟩ <;> (try simp only [kM, kN, kO]); obtain ⟨a1, c1, rfl, q1⟩ := o1.slice) | (refine Ze (.func 214) ?_; refine qC rfl rfl (hc2) ?_; rintro v ρ' L' hle ⟨rfl, s2, o2, rfl⟩ <;> (try simp only [kM, kN, kO]); obtain ⟨a2, c2, rfl, q2⟩ := o2.slice) | (refine ZZ (o := 0 + k * 7) (P := txF os) rfl rfl hPl rfl ?_) | (refine Zf ?_; refine qQ ?_) | (refine Zn ?_; try intro _)) <;> ((try simp only [kM, kN, kO]); refine Zb ?_; refine Zl ?_)))
   all_goals (first | (refine Ye (i := 5) (j := 10) ?_ ?_ <;> ((try refine Zk ?_); (first | (refine Ze (.func 213) ?_; refine qC rfl rfl (hc1) ?_; rintro v ρ' L' hle ⟨rfl, s1, o1, rfl⟩ <;> (try simp only [kM, kN, kO]); obtain ⟨a1, c1, rfl, q1⟩ := o1.slice) | (refine Ze (.func 214) ?_; refine qC rfl rfl (hc2) ?_; rintro v ρ' L' hle ⟨rfl, s2, o2, rfl⟩ <;> (try simp only [kM, kN, kO]); obtain ⟨a2, c2, rfl, q2⟩ := o2.slice) | (refine ZZ (o := 0 + k * 7) (P := txF os) rfl rfl hPl rfl ?_) | (refine Zf ?_; refine qQ ?_) | (refine Zn ?_; try intro _)) <;> ((try simp only [kM, kN, kO]); refine Zb ?_; refine Zl ?_))) | (refine rStep3 (i := 1) (j := 6) (k := 10) ?_ ?_ ?_ <;> ((try refine Zk ?_); (first | (refine Ze (.func 213) ?_; refine qC rfl rfl (hc1) ?_; rintro v ρ' L' hle ⟨rfl, s1, o1, rfl⟩ <;> (try simp only [kM, kN, kO]); obtain ⟨a1, c1, rfl, q1⟩ := o1.slice) | (refine Ze (.func 214) ?_; refine qC rfl rfl (hc2) ?_; rintro v ρ' L' hle ⟨rfl, s2, o2, rfl⟩ <;> (try simp only [kM, kN, kO]); obtain ⟨a2, c2, rfl, q2⟩ := o2.slice) | (refine ZZ (o := 0 + k * 7) (P := txF os) rfl rfl hPl rfl ?_) | (refine Zf ?_; refine qQ ?_) | (refine Zn ?_; try intro _)) <;> ((try simp only [kM, kN, kO]); refine Zb ?_; refine Zl ?_))) | (refine Ye (i := 1) (j := 5) ?_ ?_ <;> ((try refine Zk ?_); (first | (refine Ze (.func 213) ?_; refine qC rfl rfl (hc1) ?_; rintro v ρ' L' hle ⟨rfl, s1, o1, rfl⟩ <;> (try simp only [kM, kN, kO]); obtain ⟨a1, c1, rfl, q1⟩ := o1.slice) | (refine Ze (.func 214) ?_; refine qC rfl rfl (hc2) ?_; rintro v ρ' L' hle ⟨rfl, s2, o2, rfl⟩ <;> (try simp only [kM, kN, kO]); obtain ⟨a2, c2, rfl, q2⟩ := o2.slice) | (refine ZZ (o := 0 + k * 7) (P := txF os) rfl rfl hPl rfl ?_) | (refine Zf ?_; refine qQ ?_) | (refine Zn ?_; try intro _)) <;> ((try simp only [kM, kN, kO]); refine Zb ?_; refine Zl ?_))))
   all_goals (first | (refine Ye (i := 6) (j := 10) ?_ ?_ <;> ((try refine Zk ?_); (first | (refine Ze (.func 213) ?_; refine qC rfl rfl (hc1) ?_; rintro v ρ' L' hle ⟨rfl, s1, o1, rfl⟩ <;> (try simp only [kM, kN, kO]); obtain ⟨a1, c1, rfl, q1⟩ := o1.slice) | (refine Ze (.func 214) ?_; refine qC rfl rfl (hc2) ?_; rintro v ρ' L' hle ⟨rfl, s2, o2, rfl⟩ <;> (try simp only [kM, kN, kO]); obtain ⟨a2, c2, rfl, q2⟩ := o2.slice) | (refine ZZ (o := 0 + k * 7) (P := txF os) rfl rfl hPl rfl ?_) | (refine Zf ?_; refine qQ ?_) | (refine Zn ?_; try intro _)) <;> ((try simp only [kM, kN, kO]); refine Zb ?_; refine Zl ?_))) | (refine Zp (i := 5) ?_; ((try refine Zk ?_); (first | (refine Ze (.func 213) ?_; refine qC rfl rfl (hc1) ?_; rintro v ρ' L' hle ⟨rfl, s1, o1, rfl⟩ <;> (try simp only [kM, kN, kO]); obtain ⟨a1, c1, rfl, q1⟩ := o1.slice) | (refine Ze (.func 214) ?_; refine qC rfl rfl (hc2) ?_; rintro v ρ' L' hle ⟨rfl, s2, o2, rfl⟩ <;> (try simp only [kM, kN, kO]); obtain ⟨a2, c2, rfl, q2⟩ := o2.slice) | (refine ZZ (o := 0 + k * 7) (P := txF os) rfl rfl hPl rfl ?_) | (refine Zf ?_; refine qQ ?_) | (refine Zn ?_; try intro _)) <;> ((try simp only [kM, kN, kO]); refine Zb ?_; refine Zl ?_))) | (refine Ye (i := 1) (j := 10) ?_ ?_ <;> ((try refine Zk ?_); (first | (refine Ze (.func 213) ?_; refine qC rfl rfl (hc1) ?_; rintro v ρ' L' hle ⟨rfl, s1, o1, rfl⟩ <;> (try simp only [kM, kN, kO]); obtain ⟨a1, c1, rfl, q1⟩ := o1.slice) | (refine Ze (.func 214) ?_; refine qC rfl rfl (hc2) ?_; rintro v ρ' L' hle ⟨rfl, s2, o2, rfl⟩ <;> (try simp only [kM, kN, kO]); obtain ⟨a2, c2, rfl, q2⟩ := o2.slice) | (refine ZZ (o := 0 + k * 7) (P := txF os) rfl rfl hPl rfl ?_) | (refine Zf ?_; refine qQ ?_) | (refine Zn ?_; try intro _)) <;> ((try simp only [kM, kN, kO]); refine Zb ?_; refine Zl ?_))) | (refine Ye (i := 1) (j := 6) ?_ ?_ <;> ((try refine Zk ?_); (first | (refine Ze (.func 213) ?_; refine qC rfl rfl (hc1) ?_; rintro v ρ' L' hle ⟨rfl, s1, o1, rfl⟩ <;> (try simp only [kM, kN, kO]); obtain ⟨a1, c1, rfl, q1⟩ := o1.slice) | (refine Ze (.func 214) ?_; refine qC rfl rfl (hc2) ?_; rintro v ρ' L' hle ⟨rfl, s2, o2, rfl⟩ <;> (try simp only [kM, kN, kO]); obtain ⟨a2, c2, rfl, q2⟩ := o2.slice) | (refine ZZ (o := 0 + k * 7) (P := txF os) rfl rfl hPl rfl ?_) | (refine Zf ?_; refine qQ ?_) | (refine Zn ?_; try intro _)) <;> ((try simp only [kM, kN, kO]); refine Zb ?_; refine Zl ?_))))
   all_goals (first | (refine Zp (i := 10) ?_; ((try refine Zk ?_); (first | (refine Ze (.func 213) ?_; refine qC rfl rfl (hc1) ?_; rintro v ρ' L' hle ⟨rfl, s1, o1, rfl⟩ <;> (try simp only [kM, kN, kO]); obtain ⟨a1, c1, rfl, q1⟩ := o1.slice) | (refine Ze (.func 214) ?_; refine qC rfl rfl (hc2) ?_; rintro v ρ' L' hle ⟨rfl, s2, o2, rfl⟩ <;> (try simp only [kM, kN, kO]); obtain ⟨a2, c2, rfl, q2⟩ := o2.slice) | (refine ZZ (o := 0 + k * 7) (P := txF os) rfl rfl hPl rfl ?_) | (refine Zf ?_; refine qQ ?_) | (refine Zn ?_; try intro _)) <;> ((try simp only [kM, kN, kO]); refine Zb ?_; refine Zl ?_))) | (refine Zp (i := 6) ?_; ((try refine Zk ?_); (first | (refine Ze (.func 213) ?_; refine qC rfl rfl (hc1) ?_; rintro v ρ' L' hle ⟨rfl, s1, o1, rfl⟩ <;> (try simp only [kM, kN, kO]); obtain ⟨a1, c1, rfl, q1⟩ := o1.slice) | (refine ZZ (o := 0 + k * 7) (P := txF os) rfl rfl hPl rfl ?_) | (refine Zf ?_; refine qQ ?_) | (refine Zn ?_; try intro _)) <;> ((try simp only [kM, kN, kO]); refine Zb ?_; refine Zl ?_))) | (refine Ye (i := 1) (j := 11) ?_ ?_ <;> ((try refine Zk ?_); (first | (refine Ze (.func 213) ?_; refine qC rfl rfl (hc1) ?_; rintro v ρ' L' hle ⟨rfl, s1, o1, rfl⟩ <;> (try simp only [kM, kN, kO]); obtain ⟨a1, c1, rfl, q1⟩ := o1.slice) | (refine Ze (.func 214) ?_; refine qC rfl rfl (hc2) ?_; rintro v ρ' L' hle ⟨rfl, s2, o2, rfl⟩ <;> (try simp only [kM, kN, kO]); obtain ⟨a2, c2, rfl, q2⟩ := o2.slice) | (refine ZZ (o := 0 + k * 7) (P := txF os) rfl rfl hPl rfl ?_) | (refine Zf ?_; refine qQ ?_) | (refine Zn ?_; try intro _)) <;> ((try simp only [kM, kN, kO]); refine Zb ?_; refine Zl ?_))))
   all_goals (first | refine rNc 12 ?_ | (refine Zp (i := 11) ?_; ((try refine Zk ?_); (first | (refine Ze (.func 214) ?_; refine qC rfl rfl (hc2) ?_; rintro v ρ' L' hle ⟨rfl, s2, o2, rfl⟩ <;> (try simp only [kM, kN, kO]); obtain ⟨a2, c2, rfl, q2⟩ := o2.slice) | (refine ZZ (o := 0 + k * 7) (P := txF os) rfl rfl hPl rfl ?_) | (refine Zf ?_; refine qQ ?_) | (refine Zn ?_; try intro _)) <;> ((try simp only [kM, kN, kO]); refine Zb ?_; refine Zl ?_))))
   all_goals (first | refine rNc 12 ?_ | refine ZS 13 ?_)
   all_goals (first | refine ZS 13 ?_ | (refine Ye (i := 1) (j := 14) ?_ ?_ <;> ((try refine Zk ?_); (first | (refine Ze (.func 213) ?_; refine qC rfl rfl (hc1) ?_; rintro v ρ' L' hle ⟨rfl, s1, o1, rfl⟩ <;> (try simp only [kM, kN, kO]); obtain ⟨a1, c1, rfl, q1⟩ := o1.slice) | (refine Ze (.func 214) ?_; refine qC rfl rfl (hc2) ?_; rintro v ρ' L' hle ⟨rfl, s2, o2, rfl⟩ <;> (try simp only [kM, kN, kO]); obtain ⟨a2, c2, rfl, q2⟩ := o2.slice) | (refine ZZ (o := 0 + k * 7) (P := txF os) rfl rfl hPl rfl ?_) | (refine Zf ?_; refine qQ ?_) | (refine Zn ?_; try intro _)) <;> ((try simp only [kM, kN, kO]); refine Zb ?_; refine Zl ?_))))
   all_goals (first | (refine Zp (i := 14) ?_; ((try refine Zk ?_); (first | (refine ZZ (o := 0 + k * 7) (P := txF os) rfl rfl hPl rfl ?_) | (refine Zf ?_; refine qQ ?_) | (refine Zn ?_; try intro _)) <;> ((try simp only [kM, kN, kO]); refine Zb ?_; refine Zl ?_))) | (refine Zp (i := 1) ?_; ((try refine Zk ?_); (first | (refine Ze (.func 213) ?_; refine qC rfl rfl (hc1) ?_; rintro v ρ' L' hle ⟨rfl, s1, o1, rfl⟩ <;> (try simp only [kM, kN, kO]); obtain ⟨a1, c1, rfl, q1⟩ := o1.slice) | (refine Ze (.func 214) ?_; refine qC rfl rfl (hc2) ?_; rintro v ρ' L' hle ⟨rfl, s2, o2, rfl⟩ <;> (try simp only [kM, kN, kO]); obtain ⟨a2, c2, rfl, q2⟩ := o2.slice) | (refine ZZ (o := 0 + k * 7) (P := txF os) rfl rfl hPl rfl ?_) | (refine Zf ?_; refine qQ ?_) | (refine Zn ?_; try intro _)) <;> ((try simp only [kM, kN, kO]); refine Zb ?_; refine Zl ?_))))
   all_goals (refine rNc 15 ?_; refine ZS 16 ?_)
   all_goals (refine Zp (i := 17) ?_; ((try refine Zk ?_); (first | (refine ZZ (o := 0 + k * 7) (P := txF os) rfl rfl hPl rfl ?_) | (refine Zf ?_; refine qQ ?_) | (refine Zn ?_; try intro _)) <;> ((try simp only [kM, kN, kO]); refine Zb ?_; refine Zl ?_)))
   all_goals refine ZI ?_
   all_goals (
    have hot : OwnX { x with sv := ⟨a1, x.stack.length, c1⟩, mv := ⟨a2, x.marks.length, c2⟩ } s1 s2 := ⟨o1, o2⟩
    generalize hoe : (⟨{ x with sv := ⟨a1, x.stack.length, c1⟩, mv := ⟨a2, x.marks.length, c2⟩ }, s1, s2⟩ : OT) = ot
    have hre : txF os ++ (Value.int .i64 x.num :: .int .i64 x.state :: .int .u64 x.first :: .int .u64 x.last :: .int .u64 x.undo :: .slice a1 x.stack.length c1 :: .slice a2 x.marks.length c2 :: (((r.txns.drop (k + 1)).map Ym).flatten ++ sp)) = (txF (os ++ [ot]) ++ ((r.txns.drop (k + 1)).map Ym).flatten) ++ sp := by
     rw [← hoe, Wi, txF_one]; simp
    have hoo1 : ∀ o ∈ os ++ [ot], o.Own := fun o ho => by
     rcases List.mem_append.1 ho with ho | ho
     ·exact hoo o ho
     ·rw [List.mem_singleton] at ho
      subst ho; rw [← hoe]; exact hot
    have hop1 : (os ++ [ot]).map (fun o => o.x.p) = (r.txns.take (k + 1)).map Tx.p := by rw [List.map_append, hop, hx2, ← hoe]; rfl
    have hst : stC os ++ (ZK (.slice a1 x.stack.length c1) ((x.stack.map lfV).flatten) s1 74 ++ ZK (.slice a2 x.marks.length c2) (x.marks.map ZU) s2 24) = stC (os ++ [ot]) := by rw [WN, ← hoe, stC_one]
    have hlen : (txF (os ++ [ot]) ++ ((r.txns.drop (k + 1)).map Ym).flatten).length = v.n * 7 := by
     rw [List.length_append, WL, YX Wy, List.length_append, List.length_drop, List.length_singleton]; omega
    have how1 : OwnS (.slice (some ⟨b, 0, none⟩) v.n vc) v.n (txF (os ++ [ot]) ++ ((r.txns.drop (k + 1)).map Ym).flatten) sp 7 := ⟨.inr ⟨b, vc, rfl, hlen, by omega, e3⟩⟩
    rw [hre]
    refine XQ (ZK (.slice a1 x.stack.length c1) ((x.stack.map lfV).flatten) s1 74) (ZK (.slice a2 x.marks.length c2) (x.marks.map ZU) s2 24) ?_
    refine XQ (stC os) (ZK (.slice a1 x.stack.length c1) ((x.stack.map lfV).flatten) s1 74 ++ ZK (.slice a2 x.marks.length c2) (x.marks.map ZU) s2 24) ?_
    rw [hst])
   all_goals (repeat' (first | (refine ZE ?_; refine Zo (Zd rfl) rfl rfl ?_) | (refine Zj ?_; first | (refine Zf ?_; refine qQ ?_) | refine Zn ?_) | refine Zb ?_ | (refine Zi ?_; refine Zv ?_) | (refine Zh ?_; refine Zu ?_) | intro _))
   all_goals refine Zq (k + 1, os ++ [ot]) (⟨hlt, by simp; omega, hoo1, hop1, how1⟩) Zm Zm rfl tk inferInstance (by first | omega | (dsimp only; omega))
 ·have hk2 : k = r.txns.length := by omega
  subst hk2
  rw [List.take_length] at hop
  simp only [List.drop_length, List.map_nil, List.flatten_nil, List.append_nil] at how ⊢
  have hR : OwnR (.slice va v.n vc) sp os r.p.txns := ⟨by rw [hol]; rw [hl]; exact how, hoo, hop⟩
  have hd := hdo ρ' (Hp.le_refl ρ') cb _ sp os hR
  unfold DoR at hd
  by_cases he : e = 0
  ·subst he
   repeat' (first | (refine Ze (.tmp 58) ?_; refine qC rfl rfl (hd) ?_; rintro v ρ' L' hle ⟨hl1, rfl, ⟨h0, _⟩ | ⟨_, vv', sp', os', rv, x, tp, hR', rfl⟩⟩ <;> (try simp only [kM, kN, kO])) | (refine ZE ?_; refine Zo (Zd rfl) rfl rfl ?_) | (refine Zj ?_; first | (refine Zf ?_; refine qQ ?_) | refine Zn ?_) | refine Zb ?_ | (refine Zi ?_; refine Zv ?_) | (refine Zh ?_; refine Zu ?_) | intro _)
   ·exact absurd rfl h0
   ·obtain ⟨va', vc', rfl, _⟩ := hR'.own.slice
    repeat' (first | (refine ZE ?_; refine Zo (Zd rfl) rfl rfl ?_) | (refine Zj ?_; first | (refine Zf ?_; refine qQ ?_) | refine Zn ?_) | refine Zb ?_ | (refine Zi ?_; refine Zv ?_) | (refine Zh ?_; refine Zu ?_) | intro _)
    exact qE (L' := Xi _ sp' os' ++ X') ⟨hl1, .inr ⟨by trivial, _, sp', os', hR', rfl, rfl⟩⟩
  ·repeat' (first | (refine Ze (.tmp 58) ?_; refine qC rfl rfl (hd) ?_; rintro v ρ' L' hle ⟨hl1, rfl, ⟨h0, G, rfl⟩ | ⟨h0, _⟩⟩ <;> (try simp only [kM, kN, kO])) | (refine ZE ?_; refine Zo (Zd rfl) rfl rfl ?_) | (refine Zj ?_; first | (refine Zf ?_; refine qQ ?_) | refine Zn ?_) | refine Zb ?_ | (refine Zi ?_; refine Zv ?_) | (refine Zh ?_; refine Zu ?_) | intro _)
   ·simp only [List.append_assoc]
    repeat' (first | (refine ZE ?_; refine Zo (Zd rfl) rfl rfl ?_) | (refine Zj ?_; first | (refine Zf ?_; refine qQ ?_) | refine Zn ?_) | refine Zb ?_ | (refine Zi ?_; refine Zv ?_) | (refine Zh ?_; refine Zu ?_) | intro _)
    exact qE (L' := X') ⟨hl1, .inl ⟨he, rfl, rfl⟩⟩
   ·exact absurd h0 he
theorem idxB_spec (ρ : Hp) (b0 : Nat) (bs : List Bool) (hn : bs.length ≤ 10) : Spec Tryz.prog 311 [.slice (some ⟨b0, 0, none⟩) bs.length bs.length, .bool false] ρ [[(b0, .cells ⟨bs.map Value.bool⟩ 4 (0, 0))]]
  (fun z ρ' L' => (∃ i : Int, z = .int .i64 i ∧ (0 ≤ i ↔ bs.all id = false)) ∧ ρ' = ρ ∧ L' = [[(b0, .cells ⟨bs.map Value.bool⟩ 4 (0, 0))]]) := by
 refine Zg Tryz.func311 rfl rfl rfl fun u R => ?_
 simp only [Zx, List.cons_append, List.nil_append]
 repeat' (first | (refine ZE ?_; refine Zo (Zd rfl) rfl rfl ?_) | (refine Zj ?_; first | (refine Zf ?_; refine qQ ?_) | refine Zn ?_) | refine Zb ?_ | (refine Zi ?_; refine Zv ?_) | (refine Zh ?_; refine Zu ?_) | intro _)
 refine ZB [(0, _), (1, _), (7, _)] (fun (ζ : (Nat)) => [(8, .int .i64 ζ), (4, .int .i64 0)]) (fun (ζ : (Nat)) => ρ) (fun (ζ : (Nat)) => [[(b0, .cells ⟨bs.map Value.bool⟩ 4 (0, 0))]]) (fun (ζ : (Nat)) => ζ ≤ bs.length ∧ ∀ x ∈ bs.take ζ, x = true) (fun (ζ : (Nat)) => bs.length - ζ) (0) (⟨Nat.zero_le _, by simp⟩) Zm Zm rfl tk ?_
 rintro k hI
 try simp only [List.cons_append, List.nil_append, List.append_assoc, List.append_eq] at hI ⊢
 try dsimp only at hI ⊢
 obtain ⟨hk, hok⟩ := hI
 by_cases hlt : k < bs.length
 ·have hcell : (bs.map Value.bool)[0 + k * 1]? = some (.bool bs[k]) := by simp [hlt]
  have ht := take_more (p := fun x => x = true) hlt
  have hmem := List.getElem_mem hlt
  generalize bs[k] = y at *
  cases y
  ·repeat' (first | (refine ZE ?_; refine Zo (Zd rfl) rfl rfl ?_) | (refine Zj ?_; first | (refine Zf ?_; refine qQ ?_) | refine Zn ?_) | refine Zb ?_ | (refine Zi ?_; refine Zv ?_) | (refine Zh ?_; refine Zu ?_) | intro _)
   exact qE (L' := _) ⟨⟨k, rfl, ⟨fun _ => List.all_eq_false.2 ⟨false, hmem, by simp⟩, fun _ => by omega⟩⟩, rfl, rfl⟩
  ·repeat' (first | (refine ZE ?_; refine Zo (Zd rfl) rfl rfl ?_) | (refine Zj ?_; first | (refine Zf ?_; refine qQ ?_) | refine Zn ?_) | refine Zb ?_ | (refine Zi ?_; refine Zv ?_) | (refine Zh ?_; refine Zu ?_) | intro _)
   refine Zq (k + 1) (⟨hlt, ht rfl hok⟩) Zm Zm rfl tk inferInstance (by first | omega | (dsimp only; omega))
 ·have : bs.all id = true := List.all_eq_true.2 (fun x hx => hok x (by rw [List.take_of_length_le (by omega)]; exact hx))
  repeat' (first | (refine ZE ?_; refine Zo (Zd rfl) rfl rfl ?_) | (refine Zj ?_; first | (refine Zf ?_; refine qQ ?_) | refine Zn ?_) | refine Zb ?_ | (refine Zi ?_; refine Zv ?_) | (refine Zh ?_; refine Zu ?_) | intro _)
  exact qE (L' := _) ⟨⟨-1, rfl, ⟨fun h => by omega, fun h => by rw [this] at h; cases h⟩⟩, rfl, rfl⟩
theorem needB_spec (ρ : Hp) (b0 n : Nat) (bs : List Bool) (hn : bs.length ≤ 10) (hnn : n = bs.length) : Spec Tryz.prog 263 [.slice (some ⟨b0, 0, none⟩) n n] ρ [[(b0, .cells ⟨bs.map Value.bool⟩ 4 (0, 0))]]
  (fun z ρ' L' => z = .int .i64 (if bs.all id then 0 else 2) ∧ ρ' = ρ ∧ L' = []) := by
 subst hnn
 have hI := idxB_spec ρ b0 bs hn
 have hC : Spec Tryz.prog 288 [.slice (some ⟨b0, 0, none⟩) bs.length bs.length, .bool false] ρ [[(b0, .cells ⟨bs.map Value.bool⟩ 4 (0, 0))]]
  (fun z ρ' L' => z = .bool (!(bs.all id)) ∧ ρ' = ρ ∧ L' = []) := by
  refine Zg Tryz.func288 rfl rfl rfl fun u R => ?_
  simp only [Zx, List.cons_append, List.nil_append]
  repeat' (first | (refine Ze (.func 311) ?_; refine qC rfl rfl (hI) ?_; rintro v ρ' L' hle ⟨⟨i, rfl, hi⟩, rfl, rfl⟩ <;> (try simp only [kM, kN, kO])) | (refine ZE ?_; refine Zo (Zd rfl) rfl rfl ?_) | (refine Zj ?_; first | (refine Zf ?_; refine qQ ?_) | refine Zn ?_) | refine Zb ?_ | (refine Zi ?_; refine Zv ?_) | (refine Zh ?_; refine Zu ?_) | intro _)
  by_cases h0 : 0 ≤ i
  ·rw [hi.1 h0, Bool.not_false, decide_eq_true (show i ≥ 0 from h0)]
   exact qE (L' := []) ⟨rfl, rfl, rfl⟩
  ·have : bs.all id = true := by
    cases h : bs.all id
    ·exact absurd (hi.2 h) h0
    ·rfl
   rw [this, Bool.not_true, decide_eq_false (show ¬ i ≥ 0 from h0)]
   exact qE (L' := []) ⟨rfl, rfl, rfl⟩
 refine Zg Tryz.func263 rfl rfl rfl fun u R => ?_
 simp only [Zx, List.cons_append, List.nil_append]
 cases hb : bs.all id
 ·rw [hb] at hC
  simp only [Bool.false_eq_true, if_false]
  repeat' (first | (refine Ze (.func 288) ?_; refine qC rfl rfl (hC) ?_; rintro v ρ' L' hle ⟨rfl, rfl, rfl⟩ <;> (try simp only [kM, kN, kO])) | (refine ZE ?_; refine Zo (Zd rfl) rfl rfl ?_) | (refine Zj ?_; first | (refine Zf ?_; refine qQ ?_) | refine Zn ?_) | refine Zb ?_ | (refine Zi ?_; refine Zv ?_) | (refine Zh ?_; refine Zu ?_) | intro _)
  exact qE (L' := []) ⟨rfl, rfl, rfl⟩
 ·rw [hb] at hC
  simp only [if_true]
  repeat' (first | (refine Ze (.func 288) ?_; refine qC rfl rfl (hC) ?_; rintro v ρ' L' hle ⟨rfl, rfl, rfl⟩ <;> (try simp only [kM, kN, kO])) | (refine ZE ?_; refine Zo (Zd rfl) rfl rfl ?_) | (refine Zj ?_; first | (refine Zf ?_; refine qQ ?_) | refine Zn ?_) | refine Zb ?_ | (refine Zi ?_; refine Zv ?_) | (refine Zh ?_; refine Zu ?_) | intro _)
  exact qE (L' := []) ⟨rfl, rfl, rfl⟩
abbrev txQ (x : Tx) (S : List Value) : List Value := .int .i64 x.num :: .int .i64 x.state :: .int .u64 x.first :: .int .u64 x.last :: .int .u64 x.undo :: .slice x.sv.a x.sv.n x.sv.c :: .slice x.mv.a x.mv.n x.mv.c :: S
abbrev Xt (b : Nat) (P : List Value) (x : Tx) (S : List Value) : List (Nat × Obj) := [(b, .cells ⟨P ++ txQ x S⟩ 72 (0, 0))]
variable (ρ : Hp) (cb : Nat) (next : Int) (vv : Value) (rv : RV) (r : Rc) (b o : Nat) (P : List Value) (x : Tx) (S : List Value)
theorem live_spec (hP : P.length = o) : Spec Tryz.prog 211 [.pointer (some ⟨cb, 0, none⟩)] ρ [YQ cb next vv rv r (some ⟨b, o, none⟩), Xt b P x S]
  (fun z ρ' L' => z = .bool (decide (x.state = 1)) ∧ ρ' = ρ ∧ L' = [YQ cb next vv rv r (some ⟨b, o, none⟩), Xt b P x S]) := by
 have hg1 : (P ++ txQ x S)[o + 1]? = some (.int .i64 x.state) := Wp hP rfl
 refine Zg Tryz.func211 rfl rfl rfl fun u R => ?_
 simp only [Zx, List.cons_append, List.nil_append]
 by_cases h : x.state = 1
 ·rw [decide_eq_true h]
  repeat' (first | (refine ZE ?_; refine Zo (Zd rfl) rfl rfl ?_) | (refine Zj ?_; first | (refine Zf ?_; refine qQ ?_) | refine Zn ?_) | refine Zb ?_ | (refine Zi ?_; refine Zv ?_) | (refine Zh ?_; refine Zu ?_) | intro _)
  exact qE (L' := [YQ cb next vv rv r (some ⟨b, o, none⟩), Xt b P x S]) ⟨rfl, rfl, rfl⟩
 ·rw [decide_eq_false h]
  repeat' (first | (refine ZE ?_; refine Zo (Zd rfl) rfl rfl ?_) | (refine Zj ?_; first | (refine Zf ?_; refine qQ ?_) | refine Zn ?_) | refine Zb ?_ | (refine Zi ?_; refine Zv ?_) | (refine Zh ?_; refine Zu ?_) | intro _)
  exact qE (L' := [YQ cb next vv rv r (some ⟨b, o, none⟩), Xt b P x S]) ⟨rfl, rfl, rfl⟩
theorem within_spec (hP : P.length = o) : Spec Tryz.prog 264 [.pointer (some ⟨cb, 0, none⟩)] ρ [YQ cb next vv rv r (some ⟨b, o, none⟩), Xt b P x S]
  (fun z ρ' L' => z = .bool (XE x.p r) ∧ ρ' = ρ ∧ L' = [YQ cb next vv rv r (some ⟨b, o, none⟩), Xt b P x S]) := by
 have hg2 : (P ++ txQ x S)[o + 2]? = some (.int .u64 x.first) := Wp hP rfl
 have hg4 : (P ++ txQ x S)[o + 4]? = some (.int .u64 x.undo) := Wp hP rfl
 unfold XE
 simp only [Tx.p]
 refine Zg Tryz.func264 rfl rfl rfl fun u R => ?_
 simp only [Zx, List.cons_append, List.nil_append]
 by_cases h1 : x.first ≤ r.next
 ·by_cases h2 : r.next ≤ x.undo
  ·rw [decide_eq_true ⟨h1, h2⟩]
   repeat' (first | (refine ZE ?_; refine Zo (Zd rfl) rfl rfl ?_) | (refine Zj ?_; first | (refine Zf ?_; refine qQ ?_) | refine Zn ?_) | refine Zb ?_ | (refine Zi ?_; refine Zv ?_) | (refine Zh ?_; refine Zu ?_) | intro _)
   refine ZD (Zs _ _ ([YQ cb next vv rv r (some ⟨b, o, none⟩), Xt b P x S])) (Zz (hT := tk) (Hp.le_refl _)) ?_
   all_goals (refine ZT 0 ?_; refine ZO ?_; refine rNc 1 ?_; refine ZS 2 ?_; refine ZS 3 ?_; refine ZX 4 ?_; refine ZT 5 ?_; refine rNc 6 ?_; refine ZS 7 ?_; refine ZX 8 ?_; refine rNc 9 ?_; refine ZS 10 ?_; refine ZX 11 ?_; refine rCm 12 ?_; refine ZT 13 ?_; (first | refine Zc 14 ?_ | refine Za 14 ?_ | refine ZP 14 ?_); (first | refine Zc 15 ?_ | refine Za 15 ?_ | refine wNc 15 ?_); (first | refine Zc 16 ?_ | refine Za 16 ?_ | refine ZW 16 ?_); (first | refine Zc 17 ?_ | refine Za 17 ?_ | refine ZW 17 ?_); (first | refine Zc 18 ?_ | refine Za 18 ?_ | refine Yb 18 ?_); (first | refine Zc 19 ?_ | refine Za 19 ?_ | refine ZP 19 ?_); (first | refine Zc 20 ?_ | refine Za 20 ?_ | refine wNc 20 ?_); (first | refine Zc 21 ?_ | refine Za 21 ?_ | refine ZW 21 ?_); (first | refine Zc 22 ?_ | refine Za 22 ?_ | refine Yb 22 ?_); (first | refine Zc 23 ?_ | refine Za 23 ?_ | refine wNc 23 ?_); (first | refine Zc 24 ?_ | refine Za 24 ?_ | refine ZW 24 ?_); (first | refine Zc 25 ?_ | refine Za 25 ?_ | refine Yb 25 ?_); (first | refine Zc 26 ?_ | refine Za 26 ?_ | refine Yw 26 ?_); refine YA 27 ?_; refine rAs 28 ?_; refine ZI ?_)
   all_goals (repeat' (first | (refine ZE ?_; refine Zo (Zd rfl) rfl rfl ?_) | (refine Zj ?_; first | (refine Zf ?_; refine qQ ?_) | refine Zn ?_) | refine Zb ?_ | (refine Zi ?_; refine Zv ?_) | (refine Zh ?_; refine Zu ?_) | intro _))
   all_goals exact qE (L' := [YQ cb next vv rv r (some ⟨b, o, none⟩), Xt b P x S]) ⟨rfl, rfl, rfl⟩
  ·rw [decide_eq_false (fun e => h2 e.2)]
   repeat' (first | (refine ZE ?_; refine Zo (Zd rfl) rfl rfl ?_) | (refine Zj ?_; first | (refine Zf ?_; refine qQ ?_) | refine Zn ?_) | refine Zb ?_ | (refine Zi ?_; refine Zv ?_) | (refine Zh ?_; refine Zu ?_) | intro _)
   refine ZD (Zs _ _ ([YQ cb next vv rv r (some ⟨b, o, none⟩), Xt b P x S])) (Zz (hT := tk) (Hp.le_refl _)) ?_
   all_goals (refine ZT 0 ?_; refine ZO ?_; refine rNc 1 ?_; refine ZS 2 ?_; refine ZS 3 ?_; refine ZX 4 ?_; refine ZT 5 ?_; refine rNc 6 ?_; refine ZS 7 ?_; refine ZX 8 ?_; refine rNc 9 ?_; refine ZS 10 ?_; refine ZX 11 ?_; refine rCm 12 ?_; refine ZT 13 ?_; (first | refine Zc 14 ?_ | refine Za 14 ?_ | refine ZP 14 ?_); (first | refine Zc 15 ?_ | refine Za 15 ?_ | refine wNc 15 ?_); (first | refine Zc 16 ?_ | refine Za 16 ?_ | refine ZW 16 ?_); (first | refine Zc 17 ?_ | refine Za 17 ?_ | refine ZW 17 ?_); (first | refine Zc 18 ?_ | refine Za 18 ?_ | refine Yb 18 ?_); (first | refine Zc 19 ?_ | refine Za 19 ?_ | refine ZP 19 ?_); (first | refine Zc 20 ?_ | refine Za 20 ?_ | refine wNc 20 ?_); (first | refine Zc 21 ?_ | refine Za 21 ?_ | refine ZW 21 ?_); (first | refine Zc 22 ?_ | refine Za 22 ?_ | refine Yb 22 ?_); (first | refine Zc 23 ?_ | refine Za 23 ?_ | refine wNc 23 ?_); (first | refine Zc 24 ?_ | refine Za 24 ?_ | refine ZW 24 ?_); (first | refine Zc 25 ?_ | refine Za 25 ?_ | refine Yb 25 ?_); (first | refine Zc 26 ?_ | refine Za 26 ?_ | refine Yw 26 ?_); refine YA 27 ?_; refine rAs 28 ?_; refine ZI ?_)
   all_goals (repeat' (first | (refine ZE ?_; refine Zo (Zd rfl) rfl rfl ?_) | (refine Zj ?_; first | (refine Zf ?_; refine qQ ?_) | refine Zn ?_) | refine Zb ?_ | (refine Zi ?_; refine Zv ?_) | (refine Zh ?_; refine Zu ?_) | intro _))
   all_goals exact qE (L' := [YQ cb next vv rv r (some ⟨b, o, none⟩), Xt b P x S]) ⟨rfl, rfl, rfl⟩
 ·rw [decide_eq_false (fun e => h1 e.1)]
  repeat' (first | (refine ZE ?_; refine Zo (Zd rfl) rfl rfl ?_) | (refine Zj ?_; first | (refine Zf ?_; refine qQ ?_) | refine Zn ?_) | refine Zb ?_ | (refine Zi ?_; refine Zv ?_) | (refine Zh ?_; refine Zu ?_) | intro _)
  refine ZD (Zs _ _ ([YQ cb next vv rv r (some ⟨b, o, none⟩), Xt b P x S])) (Zz (hT := tk) (Hp.le_refl _)) ?_
  all_goals (refine ZT 0 ?_; refine ZO ?_; refine rNc 1 ?_; refine ZS 2 ?_; refine ZS 3 ?_; refine ZX 4 ?_; refine ZT 5 ?_; refine rNc 6 ?_; refine ZS 7 ?_; refine ZX 8 ?_; refine rNc 9 ?_; refine ZS 10 ?_; refine ZX 11 ?_; refine rCm 12 ?_; refine ZT 13 ?_; (first | refine Zc 14 ?_ | refine Za 14 ?_ | refine ZP 14 ?_); (first | refine Zc 15 ?_ | refine Za 15 ?_ | refine wNc 15 ?_); (first | refine Zc 16 ?_ | refine Za 16 ?_ | refine ZW 16 ?_); (first | refine Zc 17 ?_ | refine Za 17 ?_ | refine ZW 17 ?_); (first | refine Zc 18 ?_ | refine Za 18 ?_ | refine Yb 18 ?_); (first | refine Zc 19 ?_ | refine Za 19 ?_ | refine ZP 19 ?_); (first | refine Zc 20 ?_ | refine Za 20 ?_ | refine wNc 20 ?_); (first | refine Zc 21 ?_ | refine Za 21 ?_ | refine ZW 21 ?_); (first | refine Zc 22 ?_ | refine Za 22 ?_ | refine Yb 22 ?_); (first | refine Zc 23 ?_ | refine Za 23 ?_ | refine wNc 23 ?_); (first | refine Zc 24 ?_ | refine Za 24 ?_ | refine ZW 24 ?_); (first | refine Zc 25 ?_ | refine Za 25 ?_ | refine Yb 25 ?_); (first | refine Zc 26 ?_ | refine Za 26 ?_ | refine Yw 26 ?_); refine YA 27 ?_; refine rAs 28 ?_; refine ZI ?_)
  all_goals (repeat' (first | (refine ZE ?_; refine Zo (Zd rfl) rfl rfl ?_) | (refine Zj ?_; first | (refine Zf ?_; refine qQ ?_) | refine Zn ?_) | refine Zb ?_ | (refine Zi ?_; refine Zv ?_) | (refine Zh ?_; refine Zu ?_) | intro _))
  all_goals exact qE (L' := [YQ cb next vv rv r (some ⟨b, o, none⟩), Xt b P x S]) ⟨rfl, rfl, rfl⟩
abbrev cellC (pb cb : Nat) : List (Nat × Obj) := [(pb, .cells ⟨[.pointer (some ⟨cb, 0, none⟩)]⟩ 185 (0, 0))]
theorem back1_spec (t : Option Addr) (pb : Nat) (s : Lf) : Spec Tryz.prog 290 [.agg ⟨lfV s⟩, .pointer (some ⟨pb, 0, none⟩)] ρ [cellC pb cb, YQ cb next vv rv r t]
  (fun z ρ' L' => z = .bool (decide (r.next < s.lsn)) ∧ ρ' = ρ ∧ L' = [cellC pb cb, YQ cb next vv rv r t]) := by
 refine Zg Tryz.func290 rfl rfl rfl fun u R => ?_
 simp only [Zx, List.cons_append, List.nil_append]
 by_cases h : r.next < s.lsn
 ·rw [decide_eq_true h]
  repeat' (first | (refine ZE ?_; refine Zo (Zd rfl) rfl rfl ?_) | (refine Zj ?_; first | (refine Zf ?_; refine qQ ?_) | refine Zn ?_) | refine Zb ?_ | (refine Zi ?_; refine Zv ?_) | (refine Zh ?_; refine Zu ?_) | intro _)
  refine ZD (Zs _ _ _) ZF ?_
  all_goals (refine ZS 0 ?_; refine ZO ?_; refine ZX 1 ?_; refine ZX 2 ?_; refine rNc 3 ?_; refine ZS 4 ?_; refine ZS 5 ?_; refine ZX 6 ?_; refine rCm 7 ?_; refine rAs 8 ?_; refine ZI ?_)
  all_goals (repeat' (first | (refine ZE ?_; refine Zo (Zd rfl) rfl rfl ?_) | (refine Zj ?_; first | (refine Zf ?_; refine qQ ?_) | refine Zn ?_) | refine Zb ?_ | (refine Zi ?_; refine Zv ?_) | (refine Zh ?_; refine Zu ?_) | intro _))
  all_goals exact qE (L' := [cellC pb cb, YQ cb next vv rv r t]) ⟨rfl, rfl, rfl⟩
 ·rw [decide_eq_false h]
  repeat' (first | (refine ZE ?_; refine Zo (Zd rfl) rfl rfl ?_) | (refine Zj ?_; first | (refine Zf ?_; refine qQ ?_) | refine Zn ?_) | refine Zb ?_ | (refine Zi ?_; refine Zv ?_) | (refine Zh ?_; refine Zu ?_) | intro _)
  refine ZD (Zs _ _ _) ZF ?_
  all_goals (refine ZS 0 ?_; refine ZO ?_; refine ZX 1 ?_; refine ZX 2 ?_; refine rNc 3 ?_; refine ZS 4 ?_; refine ZS 5 ?_; refine ZX 6 ?_; refine rCm 7 ?_; refine rAs 8 ?_; refine ZI ?_)
  all_goals (repeat' (first | (refine ZE ?_; refine Zo (Zd rfl) rfl rfl ?_) | (refine Zj ?_; first | (refine Zf ?_; refine qQ ?_) | refine Zn ?_) | refine Zb ?_ | (refine Zi ?_; refine Zv ?_) | (refine Zh ?_; refine Zu ?_) | intro _))
  all_goals exact qE (L' := [cellC pb cb, YQ cb next vv rv r t]) ⟨rfl, rfl, rfl⟩
theorem back2_spec (t : Option Addr) (pb : Nat) (m : Nat) : Spec Tryz.prog 292 [ZU m, .pointer (some ⟨pb, 0, none⟩)] ρ [cellC pb cb, YQ cb next vv rv r t]
  (fun z ρ' L' => z = .bool (decide (r.next < m)) ∧ ρ' = ρ ∧ L' = [cellC pb cb, YQ cb next vv rv r t]) := by
 refine Zg Tryz.func292 rfl rfl rfl fun u R => ?_
 simp only [Zx, List.cons_append, List.nil_append]
 by_cases h : r.next < m
 ·rw [decide_eq_true h]
  repeat' (first | (refine ZE ?_; refine Zo (Zd rfl) rfl rfl ?_) | (refine Zj ?_; first | (refine Zf ?_; refine qQ ?_) | refine Zn ?_) | refine Zb ?_ | (refine Zi ?_; refine Zv ?_) | (refine Zh ?_; refine Zu ?_) | intro _)
  exact qE (L' := [cellC pb cb, YQ cb next vv rv r t]) ⟨rfl, rfl, rfl⟩
 ·rw [decide_eq_false h]
  repeat' (first | (refine ZE ?_; refine Zo (Zd rfl) rfl rfl ?_) | (refine Zj ?_; first | (refine Zf ?_; refine qQ ?_) | refine Zn ?_) | refine Zb ?_ | (refine Zi ?_; refine Zv ?_) | (refine Zh ?_; refine Zu ?_) | intro _)
  exact qE (L' := [cellC pb cb, YQ cb next vv rv r t]) ⟨rfl, rfl, rfl⟩
end Go.Proofs.E
