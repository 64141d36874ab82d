/- Laws of analysis. Part 15 of 37. -/
import Derived.Test.YtkbiahafeoillaaGreatB14
namespace Go.Proofs.E
open Go
set_option linter.unusedVariables false
set_option linter.unusedSimpArgs false
set_option linter.unusedSectionVars false
set_option maxRecDepth 4000
set_option maxHeartbeats 1000000
attribute [local irreducible] Yl TL TC TE Spec YY R1 Hp.le EnvLe TS TR YS Zq
def ckOf (x : Tx) : CkT := ⟨x.num, x.first, x.last, x.undo, x.state⟩
def Wn : Int → List Yp → Bool
 | _, [] => true
 | last, p :: r => decide (last < p.page ∧ p.page < 64 ∧ 1 ≤ p.since ∧ p.since ≤ 1099511627776) && Wn p.page r
def YE (d : List Yp) : Bool := Wn (-1) d
theorem ckcheck_spec (ρ : Hp) (s : SV) (l : List Yp) (h : AS ρ 2 YM s l) : Spec Tryz.prog 107 [.slice s.a s.n s.c] ρ [] (fun z ρ' L' => z = .int .i64 (if YE l then 0 else 320) ∧ ρ' = ρ ∧ L' = []) := by
 have hl := h.at'.len
 have hn := h.big
 have hA := h.at'
 generalize hq : YE l = q
 unfold YE at hq
 refine Zg Tryz.func107 rfl rfl rfl fun u R => ?_
 simp only [Zx, List.cons_append, List.nil_append]
 repeat' (first | (refine Zz ?_; refine Zk (Zc rfl) rfl rfl ?_) | (refine Zh ?_; first | (refine Zf ?_; refine qQ ?_) | refine Zm ?_) | refine Zb ?_ | (refine Zi ?_; refine Zr ?_) | (refine Zj ?_; refine Zs ?_) | intro _)
 refine ZC [(6, _), (7, _)] (fun (ζ : (Nat) × (Int)) => [(8, .int .i64 ζ.1), (2, .int .i64 0), (3, .int .i64 ζ.2)]) (fun (ζ : (Nat) × (Int)) => ρ) (fun (ζ : (Nat) × (Int)) => []) (fun (ζ : (Nat) × (Int)) => ζ.1 ≤ s.n ∧ Wn ζ.2 (l.drop ζ.1) = q) (fun (ζ : (Nat) × (Int)) => s.n - ζ.1) ((0, -1)) (⟨Nat.zero_le _, hq⟩) Zl Zl rfl tk ?_
 rintro ⟨k, last⟩ hI
 try simp only [List.cons_append, List.nil_append, List.append_assoc, List.append_eq] at hI ⊢
 try dsimp only at hI ⊢
 obtain ⟨hk, hok⟩ := hI
 by_cases hlt : k < s.n
 ·obtain ⟨b, off, C, T, fr, e1, hb, hfit, hc⟩ := hA.get (show k < l.length by omega)
  rw [List.drop_eq_getElem_cons (show k < l.length by omega), Wn] at hok
  generalize l[k]'(by omega) = y at *
  rw [e1]
  by_cases hy : last < y.page ∧ y.page < 64 ∧ 1 ≤ y.since ∧ y.since ≤ 1099511627776
  ·rw [decide_eq_true hy, Bool.true_and] at hok
   repeat' (first | (refine Zz ?_; refine Zk (Zc rfl) rfl rfl ?_) | (refine Zh ?_; first | (refine Zf ?_; refine qQ ?_) | refine Zm ?_) | refine Zb ?_ | (refine Zi ?_; refine Zr ?_) | (refine Zj ?_; refine Zs ?_) | intro _)
   rw [← e1]
   refine Zp (k + 1, y.page) (⟨hlt, hok⟩) Zl Zl rfl tk inferInstance (by first | omega | (dsimp only; omega))
  ·rw [decide_eq_false hy, Bool.false_and] at hok
   subst hok
   repeat' (first | (refine Zz ?_; refine Zk (Zc rfl) rfl rfl ?_) | (refine Zh ?_; first | (refine Zf ?_; refine qQ ?_) | refine Zm ?_) | refine Zb ?_ | (refine Zi ?_; refine Zr ?_) | (refine Zj ?_; refine Zs ?_) | (refine Xw ?_; refine ZR rfl rfl (fun hb => ?_) (fun hb => ?_) <;> (try simp only [decide_eq_true_eq, decide_eq_false_iff_not, Bool.not_eq_true, Bool.not_eq_false, beq_iff_eq, bne_iff_ne, ne_eq, decide_eq_decide, Bool.not_eq_eq_eq_not, Bool.not_true, Bool.not_false, beq_eq_false_iff_ne, bne_eq_false_iff_eq, Bool.and_eq_true, Bool.or_eq_true, Bool.and_eq_false_imp, Bool.or_eq_false_iff, bq2, bqt, bqf] at hb)) | (refine Ym ?_; refine Yb rfl (fun hb => ?_) (fun hb => ?_) <;> (try simp only [decide_eq_true_eq, decide_eq_false_iff_not, Bool.not_eq_true, Bool.not_eq_false, beq_iff_eq, bne_iff_ne, ne_eq, decide_eq_decide, Bool.not_eq_eq_eq_not, Bool.not_true, Bool.not_false, beq_eq_false_iff_ne, bne_eq_false_iff_eq, Bool.and_eq_true, Bool.or_eq_true, Bool.and_eq_false_imp, Bool.or_eq_false_iff, bq2, bqt, bqf] at hb)) | intro _)
   all_goals first | exact qE ⟨rfl, rfl, rfl⟩ | (exfalso; omega)
 ·have hk2 : k = l.length := by omega
  rw [hk2, List.drop_length, Wn] at hok
  subst hok
  repeat' (first | (refine Zz ?_; refine Zk (Zc rfl) rfl rfl ?_) | (refine Zh ?_; first | (refine Zf ?_; refine qQ ?_) | refine Zm ?_) | refine Zb ?_ | (refine Zi ?_; refine Zr ?_) | (refine Zj ?_; refine Zs ?_) | intro _)
  exact qE ⟨rfl, rfl, rfl⟩
theorem rosckpt_spec (ρ : Hp) (v : SV) (r : Ros) (h : RosIn ρ v r) : Spec Tryz.prog 116 [.agg ⟨XI v r⟩] ρ []
  (fun z ρ' L' => ρ.le ρ' ∧ ∃ s : SV, z = .slice s.a s.n s.c ∧ AS ρ' 5 ckTV s (if XD r then r.txns.map ckOf else []) ∧ L' = []) := by
 have hl := h.at'.at'.len
 have hn := h.at'.big
 have hA := h.at'.at'
 have hck := XL ρ v r h
 refine Zg Tryz.func116 rfl rfl rfl fun u R => ?_
 simp only [Zx, List.cons_append, List.nil_append]
 cases hok : XD r
 ·rw [hok] at hck
  repeat' (first | (refine Ze (.func 55) ?_; refine qC rfl rfl (hck) ?_; rintro v ρ' L' hle ⟨rfl, rfl, rfl⟩ <;> (try simp only [kM, kN, kO, if_false, Bool.false_eq_true])) | (refine Zz ?_; refine Zk (Zc rfl) rfl rfl ?_) | (refine Zh ?_; first | (refine Zf ?_; refine qQ ?_) | refine Zm ?_) | refine Zb ?_ | (refine Zi ?_; refine Zr ?_) | (refine Zj ?_; refine Zs ?_) | intro _)
  exact qE ⟨Hp.le_refl _, Yz, rfl, AS.nil, rfl⟩
 ·rw [hok] at hck
  simp only [if_true]
  repeat' (first | (refine Ze (.func 55) ?_; refine qC rfl rfl (hck) ?_; rintro v ρ' L' hle ⟨rfl, rfl, rfl⟩ <;> (try simp only [kM, kN, kO, if_true])) | (refine Zz ?_; refine Zk (Zc rfl) rfl rfl ?_) | (refine Zh ?_; first | (refine Zf ?_; refine qQ ?_) | refine Zm ?_) | refine Zb ?_ | (refine Zi ?_; refine Zr ?_) | (refine Zj ?_; refine Zs ?_) | intro _)
  refine ZC [(2, _), (10, _), (11, _)] (fun (ζ : (Nat) × (Value) × (List Value)) => [(12, .int .i64 ζ.1), (3, ζ.2.1)]) (fun (ζ : (Nat) × (Value) × (List Value)) => ρ') (fun (ζ : (Nat) × (Value) × (List Value)) => [ZN ζ.2.1 ((((r.txns.take ζ.1).map ckOf).map ckTV).flatten) ζ.2.2 169]) (fun (ζ : (Nat) × (Value) × (List Value)) => ζ.1 ≤ v.n ∧ OwnS ζ.2.1 ζ.1 ((((r.txns.take ζ.1).map ckOf).map ckTV).flatten) ζ.2.2 5) (fun (ζ : (Nat) × (Value) × (List Value)) => v.n - ζ.1) ((0, .slice none 0 0, [])) (⟨Nat.zero_le _, OwnS.nil 5⟩) Zl Zl rfl tk ?_
  rintro ⟨k, vv, sp⟩ hI
  try simp only [List.cons_append, List.nil_append, List.append_assoc, List.append_eq] at hI ⊢
  try dsimp only at hI ⊢
  obtain ⟨hk, hown⟩ := hI
  by_cases hlt : k < v.n
  ·obtain ⟨b, off, C, T, fr, e1, hb, hfit, hc⟩ := hA.get (show k < r.txns.length by omega)
   have hx := List.take_succ_eq_append_getElem (show k < r.txns.length by omega)
   generalize r.txns[k]'(by omega) = x at *
   rw [e1]
   repeat' (first | (refine Zz ?_; refine Zk (Zc rfl) rfl rfl ?_) | (refine Zh ?_; first | (refine Zf ?_; refine qQ ?_) | refine Zm ?_) | refine Zb ?_ | (refine Zi ?_; refine Zr ?_) | (refine Zj ?_; refine Zs ?_) | intro _)
   refine ZS (css := [ckTV (ckOf x)]) (sz := 5) rfl rfl rfl rfl (by simp) (by simp) rfl (fun bs => ?_)
   simp only [List.flatten_cons, List.flatten_nil, List.append_nil]
   refine Xg (ys := ckTV (ckOf x)) (m := 1) rfl rfl hown (hR := by infer_instance) (SrcV.lit) rfl rfl (by decide) rfl (by omega) (by omega) rfl (fun v' sp' hown' => ?_)
   have hm : (((r.txns.take k).map ckOf).map ckTV).flatten ++ ckTV (ckOf x) = (((r.txns.take (k + 1)).map ckOf).map ckTV).flatten := by rw [hx]; simp
   rw [hm] at hown' ⊢
   repeat' (first | (refine Zz ?_; refine Zk (Zc rfl) rfl rfl ?_) | (refine Zh ?_; first | (refine Zf ?_; refine qQ ?_) | refine Zm ?_) | refine Zb ?_ | (refine Zi ?_; refine Zr ?_) | (refine Zj ?_; refine Zs ?_) | intro _)
   rw [← e1]
   refine Zp (k + 1, v', sp') (⟨hlt, hown'⟩) Zl Zl rfl tk inferInstance (by first | omega | (dsimp only; omega))
  ·have hk2 : k = r.txns.length := by omega
   rw [show r.txns.take k = r.txns by rw [hk2, List.take_length]] at hown ⊢
   repeat' (first | (refine Zz ?_; refine Zk (Zc rfl) rfl rfl ?_) | (refine Zh ?_; first | (refine Zf ?_; refine qQ ?_) | refine Zm ?_) | refine Zb ?_ | (refine Zi ?_; refine Zr ?_) | (refine Zj ?_; refine Zs ?_) | intro _)
   refine XX (ZN vv (((r.txns.map ckOf).map ckTV).flatten) sp 169) (fun ρ3 hle3 hfz => ?_)
   obtain ⟨sa, sc, e1, hsc, hA2⟩ := hown.aIn (by simp; omega) (fun x _ => ckTV_len x) hfz
   subst e1
   exact qE ⟨hle3, ⟨sa, k, sc⟩, rfl, ⟨hA2, by dsimp only; omega, hsc⟩, rfl⟩
theorem RosIn.nil {ρ : Hp} : RosIn ρ Yz ⟨0, []⟩ := ⟨AS.nil, by simp⟩
theorem at1_spec (ρ : Hp) (p : Yp) (n : Int) : Spec Tryz.prog 166 [.agg ⟨YM p⟩, .int .i64 n] ρ [] (fun v ρ' L' => v = .int .i64 (cmpI p.page n) ∧ ρ' = ρ ∧ L' = []) := by
 refine Zg Tryz.func166 rfl rfl rfl fun u R => ?_
 simp only [Zx, List.cons_append, List.nil_append]
 repeat' (first | (refine Ze (.func 103) ?_; refine qC rfl rfl (cmpI_spec _ _ _) ?_; rintro v ρ' L' hle ⟨rfl, rfl, rfl⟩ <;> (try simp only [kM, kN, kO])) | (refine Zz ?_; refine Zk (Zc rfl) rfl rfl ?_) | (refine Zh ?_; first | (refine Zf ?_; refine qQ ?_) | refine Zm ?_) | refine Zb ?_ | (refine Zi ?_; refine Zr ?_) | (refine Zj ?_; refine Zs ?_) | intro _)
 exact qE ⟨rfl, rfl, rfl⟩
structure AtR (l : List Yp) (page : Int) (i : Nat) (there : Bool) : Prop where
 le : i ≤ l.length
 hit : there = true → ∃ h : i < l.length, l[i].page = page
 lo : YE l = true → ∀ j (h : j < l.length), j < i → l[j].page < page
 hi : YE l = true → there = false → ∀ j (h : j < l.length), i ≤ j → page < l[j].page
theorem tblB_lt : ∀ {l : List Yp} {last : Int}, Wn last l = true → (∀ j (h : j < l.length), last < l[j].page ∧ l[j].page < 64 ∧ 1 ≤ l[j].since ∧ l[j].since ≤ 1099511627776) ∧ ∀ i j (h : j < l.length) (hij : i < j), (l[i]'(by omega)).page < l[j].page
 | [], _, _ => ⟨fun j h => by simp at h, fun i j h => by simp at h⟩
 | p :: r, last, h => by
  rw [Wn, Bool.and_eq_true, decide_eq_true_eq] at h
  obtain ⟨⟨h1, h2, h3, h4⟩, h5⟩ := h
  obtain ⟨g1, g2⟩ := tblB_lt h5
  refine ⟨fun j hj => ?_, fun i j hj hij => ?_⟩
  ·cases j with
   | zero => exact ⟨h1, h2, h3, h4⟩
   | succ j =>
    have := g1 j (by simpa using hj)
    simp only [List.getElem_cons_succ]
    exact ⟨by omega, this.2⟩
  ·cases j with
   | zero => omega
   | succ j =>
    cases i with
    | zero => simp only [List.getElem_cons_succ, List.getElem_cons_zero]; exact (g1 j (by simpa using hj)).1
    | succ i => simp only [List.getElem_cons_succ]; exact g2 i j (by simpa using hj) (by omega)
theorem search_spec (ρ : Hp) (a : Option Addr) (n c : Nat) (l : List Yp) (h : AIn ρ 2 YM a n l) (hn : n ≤ 1000000) (page : Int) :
  Spec Tryz.prog 165 [.slice a n c, .int .i64 page, .func (.func 166) ⟨[]⟩ ⟨[]⟩] ρ []
  (fun v ρ' L' => ρ' = ρ ∧ ∃ i there, v = .tuple ⟨[.int .i64 (i : Nat), .bool there]⟩ ∧ AtR l page i there ∧ L' = []) := by
 have hl := h.len
 refine Zg Tryz.func165 rfl rfl rfl fun u R => ?_
 simp only [Zx, List.cons_append, List.nil_append]
 repeat' (first | (refine Zz ?_; refine Zk (Zc rfl) rfl rfl ?_) | (refine Zh ?_; first | (refine Zf ?_; refine qQ ?_) | refine Zm ?_) | refine Zb ?_ | (refine Zi ?_; refine Zr ?_) | (refine Zj ?_; refine Zs ?_) | intro _)
 refine ZC [(0, _), (1, _), (2, _), (6, _), (7, _), (8, _)] (fun (ζ : (Nat) × (Nat)) => [(9, .int .i64 ζ.1), (10, .int .i64 ζ.2)]) (fun (ζ : (Nat) × (Nat)) => ρ) (fun (ζ : (Nat) × (Nat)) => []) (fun (ζ : (Nat) × (Nat)) => ζ.1 ≤ ζ.2 ∧ ζ.2 ≤ n ∧ (YE l = true → (∀ k (h : k < l.length), k < ζ.1 → l[k].page < page) ∧ ∀ k (h : k < l.length), ζ.2 ≤ k → page ≤ l[k].page)) (fun (ζ : (Nat) × (Nat)) => ζ.2 - ζ.1) ((0, n)) (⟨Nat.zero_le _, Nat.le_refl _, fun _ => ⟨fun k _ h => by omega, fun k h1 h2 => by omega⟩⟩) Zl Zl rfl tk ?_
 rintro ⟨i, j⟩ hI
 try simp only [List.cons_append, List.nil_append, List.append_assoc, List.append_eq] at hI ⊢
 try dsimp only at hI ⊢
 obtain ⟨hij, hj, hok⟩ := hI
 by_cases hlt : i < j
 ·have hm : ((i : Int) + (j : Int)) / 2 ^ 1 = (((i + j) / 2 : Nat) : Int) := by omega
  obtain ⟨b, off, C, T, fr, e1, hb, hfit, hc⟩ := h.get (show (i + j) / 2 < l.length by omega)
  have hq : ∀ x : Yp, l[(i + j) / 2]'(by omega) = x → (x.page < page → YE l = true → (∀ k (h : k < l.length), k < (i + j) / 2 + 1 → l[k].page < page)) ∧ (page ≤ x.page → YE l = true → ∀ k (h : k < l.length), (i + j) / 2 ≤ k → page ≤ l[k].page) := fun x hx => by
   refine ⟨fun hp ht k hk hk2 => ?_, fun hp ht k hk hk2 => ?_⟩
   ·have hs := (tblB_lt ht).2 k ((i + j) / 2) (by omega)
    by_cases e : k = (i + j) / 2
    ·subst e; rw [hx]; exact hp
    ·have := hs (by omega); rw [hx] at this; omega
   ·have hs := (tblB_lt ht).2 ((i + j) / 2) k hk
    by_cases e : k = (i + j) / 2
    ·subst e; rw [hx]; exact hp
    ·have := hs (by omega); rw [hx] at this; omega
  generalize hX : l[(i + j) / 2]'(by omega) = x at *
  obtain ⟨q1, q2⟩ := hq x rfl
  rw [e1]
  by_cases hlp : x.page < page
  ·have hcm : cmpI x.page page < 0 := by unfold cmpI; rw [if_pos hlp]; omega
   repeat' (first | (refine iSr ?_; refine Zk (y_shr (c := 1) rfl rfl (by omega) (by simp [IntKind.bits])) rfl rfl ?_; rw [hm]) | (refine Ze (.tmp 24) ?_; refine qC rfl rfl (at1_spec _ _ _) ?_; rintro v ρ' L' hle ⟨rfl, rfl, rfl⟩ <;> (try simp only [kM, kN, kO])) | (refine Zz ?_; refine Zk (Zc rfl) rfl rfl ?_) | (refine Zh ?_; first | (refine Zf ?_; refine qQ ?_) | refine Zm ?_) | refine Zb ?_ | (refine Zi ?_; refine Zr ?_) | (refine Zj ?_; refine Zs ?_) | intro _)
   rw [← e1]
   have hs1 := q1 hlp
   refine Zp ((i + j) / 2 + 1, j) (⟨by omega, hj, fun ht => ⟨hs1 ht, (hok ht).2⟩⟩) Zl Zl rfl tk inferInstance (by first | omega | (dsimp only; omega))
  ·have hcm : ¬ cmpI x.page page < 0 := by unfold cmpI; rw [if_neg hlp]; split <;> omega
   repeat' (first | (refine iSr ?_; refine Zk (y_shr (c := 1) rfl rfl (by omega) (by simp [IntKind.bits])) rfl rfl ?_; rw [hm]) | (refine Ze (.tmp 24) ?_; refine qC rfl rfl (at1_spec _ _ _) ?_; rintro v ρ' L' hle ⟨rfl, rfl, rfl⟩ <;> (try simp only [kM, kN, kO])) | (refine Zz ?_; refine Zk (Zc rfl) rfl rfl ?_) | (refine Zh ?_; first | (refine Zf ?_; refine qQ ?_) | refine Zm ?_) | refine Zb ?_ | (refine Zi ?_; refine Zr ?_) | (refine Zj ?_; refine Zs ?_) | intro _)
   rw [← e1]
   have hs2 := q2 (by omega)
   refine Zp (i, (i + j) / 2) (⟨by omega, by omega, fun ht => ⟨(hok ht).1, hs2 ht⟩⟩) Zl Zl rfl tk inferInstance (by first | omega | (dsimp only; omega))
 ·obtain rfl : i = j := by omega
  by_cases hin : i < n
  ·obtain ⟨b, off, C, T, fr, e1, hb, hfit, hc⟩ := h.get (show i < l.length by omega)
   have hX : l[i]'(by omega) = l[i]'(by omega) := rfl
   generalize hx : l[i]'(by omega) = x at hc hX
   rw [e1]
   by_cases hp : x.page = page
   ·have hcm : cmpI x.page page = 0 := by unfold cmpI; rw [hp]; simp
    repeat' (first | (refine Ze (.tmp 40) ?_; refine qC rfl rfl (at1_spec _ _ _) ?_; rintro v ρ' L' hle ⟨rfl, rfl, rfl⟩ <;> (try simp only [kM, kN, kO, hcm])) | (refine Zz ?_; refine Zk (Zc rfl) rfl rfl ?_) | (refine Zh ?_; first | (refine Zf ?_; refine qQ ?_) | refine Zm ?_) | refine Zb ?_ | (refine Zi ?_; refine Zr ?_) | (refine Zj ?_; refine Zs ?_) | intro _)
    exact qE ⟨rfl, i, true, rfl, ⟨by omega, fun _ => ⟨by omega, by rw [hx]; exact hp⟩, fun ht => (hok ht).1, (fun _ e => nomatch e)⟩, rfl⟩
   ·have hcm : cmpI x.page page ≠ 0 := by unfold cmpI; split <;> (try split) <;> omega
    repeat' (first | (refine Ze (.tmp 40) ?_; refine qC rfl rfl (at1_spec _ _ _) ?_; rintro v ρ' L' hle ⟨rfl, rfl, rfl⟩ <;> (try simp only [kM, kN, kO])) | (refine Zz ?_; refine Zk (Zc rfl) rfl rfl ?_) | (refine Zh ?_; first | (refine Zf ?_; refine qQ ?_) | refine Zm ?_) | refine Zb ?_ | (refine Zi ?_; refine Zr ?_) | (refine Zj ?_; refine Zs ?_) | intro _)
    refine qE ⟨rfl, i, false, rfl, ⟨by omega, (fun e => nomatch e), fun ht => (hok ht).1, fun ht _ k hk hik => ?_⟩, rfl⟩
    have h1 := (hok ht).2 k hk hik
    by_cases e : i = k
    ·subst e; rw [hx]; rw [hx] at h1; omega
    ·have h2 := (tblB_lt ht).2 i k hk (by omega)
     have h3 := (hok ht).2 i (by omega) (Nat.le_refl _)
     omega
  ·repeat' (first | (refine Zz ?_; refine Zk (Zc rfl) rfl rfl ?_) | (refine Zh ?_; first | (refine Zf ?_; refine qQ ?_) | refine Zm ?_) | refine Zb ?_ | (refine Zi ?_; refine Zr ?_) | (refine Zj ?_; refine Zs ?_) | intro _)
   exact qE ⟨rfl, i, false, rfl, ⟨by omega, (fun e => nomatch e), fun ht => (hok ht).1, fun ht _ k hk hik => by omega⟩, rfl⟩
theorem at_spec (ρ : Hp) (s : SV) (l : List Yp) (h : AS ρ 2 YM s l) (page : Int) :
  Spec Tryz.prog 128 [.slice s.a s.n s.c, .int .i64 page] ρ [] (fun v ρ' L' => ρ' = ρ ∧ ∃ i there, v = .tuple ⟨[.int .i64 (i : Nat), .bool there]⟩ ∧ AtR l page i there ∧ L' = []) := by
 have hs := search_spec ρ s.a s.n s.c l h.at' h.big page
 refine Zg Tryz.func128 rfl rfl rfl fun u R => ?_
 simp only [Zx, List.cons_append, List.nil_append]
 repeat' (first | (refine Ze (.func 165) ?_; refine qC rfl rfl (hs) ?_; rintro v ρ' L' hle ⟨rfl, i, there, rfl, hA, rfl⟩ <;> (try simp only [kM, kN, kO])) | (refine Zz ?_; refine Zk (Zc rfl) rfl rfl ?_) | (refine Zh ?_; first | (refine Zf ?_; refine qQ ?_) | refine Zm ?_) | refine Zb ?_ | (refine Zi ?_; refine Zr ?_) | (refine Zj ?_; refine Zs ?_) | intro _)
 exact qE ⟨rfl, i, there, rfl, hA, rfl⟩
abbrev Ya (l : List Yp) : List Value := (l.map YM).flatten
theorem flatP_one (l : List Yp) : (Ya l).all (·.oneCell') = true := by
 induction l with
 | nil => rfl
 | cons a r ih => simp only [Ya, List.map_cons, List.flatten_cons, List.all_append, Bool.and_eq_true]; exact ⟨rfl, ih⟩
theorem flatP_len (l : List Yp) : (Ya l).length = l.length * 2 := flatN_len Wd l
theorem OwnS.zero' (b sz : Nat) : OwnS (.slice (some ⟨b, 0, none⟩) 0 0) 0 [] [] sz := ⟨.inr ⟨b, 0, rfl, by simp, by simp, Nat.le_refl _⟩⟩
theorem clonep_spec (ρ : Hp) (s : SV) (l : List Yp) (h : AS ρ 2 YM s l) : Spec Tryz.prog 117 [.slice s.a s.n s.c] ρ []
  (fun v ρ' L' => ρ' = ρ ∧ ∃ sp, OwnS v l.length (Ya l) sp 2 ∧ L' = [ZN v (Ya l) sp 92]) := by
 have hl := h.at'.len
 have hn := h.big
 have hA := h.at'
 obtain ⟨a, n, c⟩ := s
 dsimp only at hl hn hA ⊢
 cases a with
 | none =>
  have hl0 : l = [] := by
   by_cases h0 : 0 < l.length
   ·obtain ⟨b, off, C, T, fr, h, _⟩ := hA.get h0
    cases h
   ·exact List.eq_nil_of_length_eq_zero (by omega)
  subst hl0
  refine Zg Tryz.func117 rfl rfl rfl fun u R => ?_
  simp only [Zx, List.cons_append, List.nil_append]
  repeat' (first | (refine Zz ?_; refine Zk (Zc rfl) rfl rfl ?_) | (refine Zh ?_; first | (refine Zf ?_; refine qQ ?_) | refine Zm ?_) | refine Zb ?_ | (refine Zi ?_; refine Zr ?_) | (refine Zj ?_; refine Zs ?_) | intro _)
  exact qE (L' := [[]]) ⟨rfl, [], OwnS.nil 2, rfl⟩
 | some ad =>
  refine Zg Tryz.func117 rfl rfl rfl fun u R => ?_
  simp only [Zx, List.cons_append, List.nil_append]
  repeat' (first | (refine Zz ?_; refine Zk (Zc rfl) rfl rfl ?_) | (refine Zh ?_; first | (refine Zf ?_; refine qQ ?_) | refine Zm ?_) | refine Zb ?_ | (refine Zi ?_; refine Zr ?_) | (refine Zj ?_; refine Zs ?_) | intro _)
  rename_i bx
  refine Xg (n := 0) (xs := []) (sp := []) (ys := Ya l) (sz := 2) rfl rfl (OwnS.zero' _ 2) (hR := Yj) hA.srcV (by rw [flatP_len]; omega) (flatP_one l) (by decide) rfl (by omega) (by omega) rfl (fun v' sp' hown' => ?_)
  simp only [Nat.zero_add, List.nil_append] at hown' ⊢
  repeat' (first | (refine Zz ?_; refine Zk (Zc rfl) rfl rfl ?_) | (refine Zh ?_; first | (refine Zf ?_; refine qQ ?_) | refine Zm ?_) | refine Zb ?_ | (refine Zi ?_; refine Zr ?_) | (refine Zj ?_; refine Zs ?_) | intro _)
  rw [← hl] at hown'
  exact qE ⟨rfl, sp', hown', rfl⟩
theorem insert_spec (ρ : Hp) (v : Value) (sp : List Value) (l : List Yp) (hl : l.length ≤ 1000000) (hown : OwnS v l.length (Ya l) sp 2) (i : Nat) (hi : i ≤ l.length) (bv : Nat) (p : Yp) :
  Spec Tryz.prog 129 [v, .int .i64 (i : Nat), .slice (some ⟨bv, 0, none⟩) 1 1] ρ [ZN v (Ya l) sp 92, [(bv, .cells ⟨YM p⟩ 92 (0, 0))]]
  (fun z ρ' L' => ρ' = ρ ∧ ∃ sp', OwnS z (l.length + 1) (Ya (l.take i ++ p :: l.drop i)) sp' 2 ∧ L' = [ZN z (Ya (l.take i ++ p :: l.drop i)) sp' 92]) := by
 obtain ⟨va, vc, rfl, hvc⟩ := hown.slice
 by_cases hin : i = l.length
 ·have hm : Ya l ++ YM p = Ya (l.take i ++ p :: l.drop i) := by rw [hin]; simp [Ya]
  refine Zg Tryz.func129 rfl rfl rfl fun u R => ?_
  simp only [Zx, List.cons_append, List.nil_append]
  repeat' (first | (refine Zz ?_; refine Zk (Zc rfl) rfl rfl ?_) | (refine Zh ?_; first | (refine Zf ?_; refine qQ ?_) | refine Zm ?_) | refine Zb ?_ | (refine Zi ?_; refine Zr ?_) | (refine Zj ?_; refine Zs ?_) | intro _)
  refine Xg (ys := YM p) (m := 1) rfl rfl hown (hR := by infer_instance) SrcV.lit rfl rfl (by decide) rfl (by omega) (by omega) rfl (fun v' sp' hown' => ?_)
  rw [hm] at hown' ⊢
  repeat' (first | (refine Zz ?_; refine Zk (Zc rfl) rfl rfl ?_) | (refine Zh ?_; first | (refine Zf ?_; refine qQ ?_) | refine Zm ?_) | refine Zb ?_ | (refine Zi ?_; refine Zr ?_) | (refine Zj ?_; refine Zs ?_) | intro _)
  exact qE ⟨rfl, sp', hown', rfl⟩
 ·have hfl := flatP_len l
  have hA := flatN_take Wd l i
  have hD := flatN_drop Wd l i
  have hAl := flatP_len (l.take i)
  have hDl := flatP_len (l.drop i)
  rw [List.length_take, Nat.min_eq_left hi] at hAl
  rw [List.length_drop] at hDl
  have hsplit : Ya l = Ya (l.take i) ++ Ya (l.drop i) := by
   show (l.map YM).flatten = ((l.take i).map YM).flatten ++ ((l.drop i).map YM).flatten
   rw [← hA, ← hD, List.take_append_drop]
  have hfin : Ya (l.take i ++ p :: l.drop i) = (Ya (l.take i) ++ YM p) ++ Ya (l.drop i) := by simp [Ya]
  have hDone := flatP_one (l.drop i)
  rcases hown.out with ⟨e, _, e2, _⟩ | ⟨b, c, e, e1, e2, e3⟩
  ·have := (Value.slice.inj e).2.1
   omega
  ·cases e
   rw [hfin]
   generalize hAA : Ya (l.take i) = A at *
   generalize hDD : Ya (l.drop i) = D at *
   have hC : ∀ xs sp, ZN (.slice (some ⟨b, 0, none⟩) l.length vc) xs sp 92 = [(b, .cells ⟨xs ++ sp⟩ 92 (0, 0))] := fun _ _ => rfl
   rw [hC, hsplit]
   refine Zg Tryz.func129 rfl rfl rfl fun u R => ?_
   simp only [Zx, List.cons_append, List.nil_append]
   have t1 : ((i : Int) + 1).toNat = i + 1 := by omega
   have hAl2 : A.length = i * 2 := by omega
   have hn1 : ((l.length : Int) + 1 - i) = ((l.length + 1 - i : Nat) : Int) := by omega
   have hni : i + (l.length + 1 - i) = l.length + 1 := by omega
   have hp2 : (YM p).length = 2 := rfl
   have t2 : ((i : Int) + ((1 : Nat) : Int)).toNat = i + 1 := by omega
   have tn2 : ((l.length : Int) + ((1 : Nat) : Int)).toNat = l.length + 1 := by omega
   by_cases hroom : l.length + 1 ≤ vc
   ·have hne : ¬ vc = i + 1 := by omega
    have hne2 : ¬ vc = i := by omega
    have tn1 : ((l.length : Int) + 1).toNat = l.length + 1 := by omega
    obtain ⟨X, Y, hXY, hXl⟩ : ∃ X Y : List Value, A ++ D ++ sp = X ++ Y ∧ X.length = (i + 1) * 2 := ⟨(A ++ D ++ sp).take ((i + 1) * 2), (A ++ D ++ sp).drop ((i + 1) * 2), (List.take_append_drop _ _).symm, by simp; omega⟩
    have hYl : D.length ≤ Y.length := by have := congrArg List.length hXY; simp only [List.length_append] at this; omega
    obtain ⟨X2, hX2, hX2l⟩ : ∃ X2 : List Value, X = A ++ X2 ∧ X2.length = 2 := by
     have h1 : X = (A ++ D ++ sp).take ((i + 1) * 2) := by rw [hXY, List.take_left' hXl]
     refine ⟨(D ++ sp).take 2, ?_, by simp; omega⟩
     rw [h1, List.append_assoc, List.take_append, List.take_of_length_le (by omega), hAl2, show (i + 1) * 2 - i * 2 = 2 by omega]
    have hsrc : ((X ++ Y).drop (i * 2)).take D.length = D := by rw [← hXY, List.append_assoc, List.drop_left' (by omega), List.take_left' rfl]
    have hst1 : stc (X ++ Y) ((i + 1) * 2) D = A ++ (X2 ++ (D ++ Y.drop D.length)) := by
     rw [← hXl, stc_end X Y D hYl, hX2]; simp only [List.append_assoc]
    have hst2 : stc (A ++ (X2 ++ (D ++ Y.drop D.length))) (i * 2) (YM p) = ((A ++ YM p) ++ D) ++ Y.drop D.length := by
     rw [← hAl2, stcN_mid (by rw [hX2l]; rfl)]; simp only [List.append_assoc]
    rw [hXY]
    repeat' (first | (refine Zz ?_; refine Zk (Zc rfl) rfl rfl ?_) | (refine Zh ?_; first | (refine Zf ?_; refine qQ ?_) | refine Zm ?_) | refine Zb ?_ | (refine Zi ?_; refine Zr ?_) | (refine Zj ?_; refine Zs ?_) | intro _)
    simp only [tn1, t1, t2, tn2, if_neg hne, Option.map_some, Yo, Nat.zero_add]
    refine tl_overlaps (sz := 2) (hF := inferInstance) (hF2 := inferInstance) rfl rfl (by have := congrArg List.length hXY; simp only [List.length_append] at this ⊢; show 2 ≠ _; omega) (by intro e; have := congrArg List.length e; simp only [List.length_append, List.length_nil] at this; omega) (fn := Tryz.f167) rfl rfl rfl rfl rfl rfl ?_
    repeat' (first | (refine Zz ?_; refine Zk (Zc rfl) rfl rfl ?_) | (refine Zh ?_; first | (refine Zf ?_; refine qQ ?_) | refine Zm ?_) | refine Zb ?_ | (refine Zi ?_; refine Zr ?_) | (refine Zj ?_; refine Zs ?_) | intro _)
    refine ZB (Zq _ _ ([])) (ZG (hT := tk) (Hp.le_refl _)) ?_
    all_goals (refine ZI 0 ?_; refine ZI 1 ?_; refine ZI 2 ?_; refine rAd 3 ?_; refine rSl 4 ?_; refine ZI 5 ?_; refine ZI 6 ?_; refine rSl 7 ?_)
    all_goals (refine Zt (i := 8) ?_; ((try refine Zn ?_); (first | (simp only [Int.toNat_natCast, t1, t2, tn2, if_neg hne, if_neg hne2, Option.map_some, Yo, Nat.zero_add]; refine tl_copyN (ys := D) rfl rfl (Src.find (n := D.length) hsrc) (by omega) hDone (by simp only [List.length_append]; omega) rfl ?_) | (refine Zm ?_; try intro _)) <;> ((try simp only [kM, kN, kO]); refine Zb ?_; refine Zo ?_)))
    all_goals refine ZE ?_
    rw [hst1]
    repeat' (first | (refine Zz ?_; refine Zk (Zc rfl) rfl rfl ?_) | (refine Zh ?_; first | (refine Zf ?_; refine qQ ?_) | refine Zm ?_) | refine Zb ?_ | (refine Zi ?_; refine Zr ?_) | (refine Zj ?_; refine Zs ?_) | intro _)
    simp only [Int.toNat_natCast, if_neg hne2, Option.map_some, Yo, Nat.zero_add]
    refine tl_copyN (ys := YM p) rfl rfl (Src.find (n := 2) rfl) (by rw [hp2]; omega) rfl (by simp only [List.length_append, hp2, hX2l]; omega) rfl ?_
    rw [hst2]
    repeat' (first | (refine Zz ?_; refine Zk (Zc rfl) rfl rfl ?_) | (refine Zh ?_; first | (refine Zf ?_; refine qQ ?_) | refine Zm ?_) | refine Zb ?_ | (refine Zi ?_; refine Zr ?_) | (refine Zj ?_; refine Zs ?_) | intro _)
    refine qE ⟨rfl, _, ⟨.inr ⟨b, vc, rfl, ?_, ?_, hroom⟩⟩, rfl⟩
    ·simp only [List.length_append, hp2]; omega
    ·have := congrArg List.length hXY
     simp only [List.length_append, List.length_drop, hp2] at this ⊢
     omega
   ·have hne2 : ¬ vc = i := by omega
    repeat' (first | (refine Zz ?_; refine Zk (Zc rfl) rfl rfl ?_) | (refine Zh ?_; first | (refine Zf ?_; refine qQ ?_) | refine Zm ?_) | refine Zb ?_ | (refine Zi ?_; refine Zr ?_) | (refine Zj ?_; refine Zs ?_) | intro _)
    simp only [Int.toNat_natCast]
    rw [show ((l.length : Int) + ((1 : Nat) : Int) - i) = ((l.length + 1 - i : Nat) : Int) by omega]
    refine tl_appZ (i := i) (n := l.length + 1 - i) (cap := vc) (b := b) (olds := A) (z := .agg ⟨[.int .i64 0, .int .u64 0]⟩) rfl rfl (Src.find (n := A.length) (by simp)) hAl2 (by omega) (by decide) rfl (by omega) (by omega) (by omega) rfl (fun b' c' ws hc' hws => ?_)
    rw [hni]
    have hwl : 2 + D.length ≤ ws.length := by omega
    have hst1 : stc (A ++ ws) (i * 2) (YM p) = (A ++ YM p) ++ ws.drop 2 := by rw [← hAl2, stc_end A ws (YM p) (by rw [hp2]; omega)]; rfl
    have hst2 : stc ((A ++ YM p) ++ ws.drop 2) ((i + 1) * 2) D = ((A ++ YM p) ++ D) ++ (ws.drop 2).drop D.length := by
     have : (A ++ YM p).length = (i + 1) * 2 := by rw [List.length_append, hp2]; omega
     rw [← this, stc_end (A ++ YM p) (ws.drop 2) D (by rw [List.length_drop]; omega)]
    have hnc : ¬ c' = i := by omega
    have hnc2 : ¬ c' = i + 1 := by omega
    repeat' (first | (refine Zz ?_; refine Zk (Zc rfl) rfl rfl ?_) | (refine Zh ?_; first | (refine Zf ?_; refine qQ ?_) | refine Zm ?_) | refine Zb ?_ | (refine Zi ?_; refine Zr ?_) | (refine Zj ?_; refine Zs ?_) | intro _)
    simp only [Int.toNat_natCast, if_neg hnc, Option.map_some, Yo, Nat.zero_add]
    refine tl_copyN (ys := YM p) rfl rfl (Src.find (n := 2) rfl) (by rw [hp2]; omega) rfl (by simp; omega) rfl ?_
    rw [hst1]
    repeat' (first | (refine Zz ?_; refine Zk (Zc rfl) rfl rfl ?_) | (refine Zh ?_; first | (refine Zf ?_; refine qQ ?_) | refine Zm ?_) | refine Zb ?_ | (refine Zi ?_; refine Zr ?_) | (refine Zj ?_; refine Zs ?_) | intro _)
    refine ZB (Zq _ _ ([])) (ZG (hT := tk) (Hp.le_refl _)) ?_
    all_goals (refine ZI 0 ?_; refine ZI 1 ?_; refine ZI 2 ?_; refine rAd 3 ?_; refine rSl 4 ?_; refine ZI 5 ?_; refine ZI 6 ?_; refine rSl 7 ?_)
    all_goals (refine Zt (i := 8) ?_; ((try refine Zn ?_); (first | (simp only [Int.toNat_natCast, t1, t2, if_neg hnc2, if_neg hne2, Option.map_some, Yo, Nat.zero_add]; refine tl_copyN (ys := D) rfl rfl (Src.find (n := D.length) (by rw [List.append_assoc, List.drop_left' (by omega), List.take_left' rfl])) (by omega) hDone (by simp; omega) rfl ?_) | (refine Zm ?_; try intro _)) <;> ((try simp only [kM, kN, kO]); refine Zb ?_; refine Zo ?_)))
    all_goals refine ZE ?_
    rw [hst2]
    repeat' (first | (refine Zz ?_; refine Zk (Zc rfl) rfl rfl ?_) | (refine Zh ?_; first | (refine Zf ?_; refine qQ ?_) | refine Zm ?_) | refine Zb ?_ | (refine Zi ?_; refine Zr ?_) | (refine Zj ?_; refine Zs ?_) | intro _)
    refine qE ⟨rfl, _, ⟨.inr ⟨b', c', rfl, ?_, ?_, by omega⟩⟩, rfl⟩
    ·simp only [List.length_append, hp2]; omega
    ·simp only [List.length_append, List.length_drop, hp2]; omega
theorem delete_spec (ρ : Hp) (v : Value) (sp : List Value) (l : List Yp) (hl : l.length ≤ 1000000) (hown : OwnS v l.length (Ya l) sp 2) (i : Nat) (hi : i < l.length) :
  Spec Tryz.prog 131 [v, .int .i64 (i : Nat), .int .i64 ((i : Nat) + 1)] ρ [ZN v (Ya l) sp 92]
  (fun z ρ' L' => ρ' = ρ ∧ ∃ sp', OwnS z (l.length - 1) (Ya (l.take i ++ l.drop (i + 1))) sp' 2 ∧ L' = [ZN z (Ya (l.take i ++ l.drop (i + 1))) sp' 92]) := by
 obtain ⟨va, vc, rfl, hvc⟩ := hown.slice
 have hfl := flatP_len l
 have hA := flatN_take Wd l i
 have hD := flatN_drop Wd l (i + 1)
 have hAl := flatP_len (l.take i)
 have hDl := flatP_len (l.drop (i + 1))
 rw [List.length_take, Nat.min_eq_left (by omega)] at hAl
 rw [List.length_drop] at hDl
 have hm : ∃ M : List Value, M.length = 2 ∧ Ya l = Ya (l.take i) ++ (M ++ Ya (l.drop (i + 1))) := by
  refine ⟨YM (l[i]'hi), rfl, ?_⟩
  have : l = l.take i ++ (l[i]'hi) :: l.drop (i + 1) := by rw [← List.drop_eq_getElem_cons hi, List.take_append_drop]
  have h2 : ∀ (A : List Yp) (x : Yp) (B : List Yp), Ya (A ++ x :: B) = Ya A ++ (YM x ++ Ya B) := fun A x B => by simp [Ya]
  exact (congrArg Ya this).trans (h2 _ _ _)
 obtain ⟨M, hM, hsplit⟩ := hm
 have hfin : Ya (l.take i ++ l.drop (i + 1)) = Ya (l.take i) ++ Ya (l.drop (i + 1)) := by simp [Ya]
 have hDone := flatP_one (l.drop (i + 1))
 rcases hown.out with ⟨e, _, e2, _⟩ | ⟨b, c, e, e1, e2, e3⟩
 ·have := (Value.slice.inj e).2.1
  omega
 ·cases e
  rw [hfin]
  generalize hAA : Ya (l.take i) = A at *
  generalize hDD : Ya (l.drop (i + 1)) = D at *
  have hC : ∀ xs sp, ZN (.slice (some ⟨b, 0, none⟩) l.length vc) xs sp 92 = [(b, .cells ⟨xs ++ sp⟩ 92 (0, 0))] := fun _ _ => rfl
  rw [hC, hsplit]
  have hAl2 : A.length = i * 2 := by omega
  have t1 : ((i : Int) + 1).toNat = i + 1 := by omega
  have hz : ∀ Z : List Value, Z.length = 2 → OwnS (.slice (some ⟨b, 0, none⟩) (l.length - 1) vc) (l.length - 1) (A ++ D) (Z ++ sp) 2 := fun Z hZ => ⟨.inr ⟨b, vc, rfl, by simp only [List.length_append]; omega, by simp only [List.length_append, hZ]; omega, by omega⟩⟩
  refine Zg Tryz.func131 rfl rfl rfl fun u R => ?_
  simp only [Zx, List.cons_append, List.nil_append]
  by_cases hend : i + 1 = l.length
  ·have hD0 : D = [] := List.eq_nil_of_length_eq_zero (by omega)
   subst hD0
   have hlen0 : l.length - (i + 1) = 0 := by omega
   have hli : l.length - 1 = i := by omega
   have tl1 : l.length - i = 1 := by omega
   have hni : ¬ vc = i := by omega
   simp only [List.append_nil] at hz ⊢
   have hst : stc (A ++ M ++ sp) (i * 2) [.int .i64 0, .int .u64 0] = A ++ ([.int .i64 0, .int .u64 0] ++ sp) := by rw [← hAl2, List.append_assoc, stcN_mid (by rw [hM]; rfl)]
   repeat' (first | (refine Zz ?_; refine Zk (Zc rfl) rfl rfl ?_) | (refine Zh ?_; first | (refine Zf ?_; refine qQ ?_) | refine Zm ?_) | refine Zb ?_ | (refine Zi ?_; refine Zr ?_) | (refine Zj ?_; refine Zs ?_) | intro _)
   refine ZB (Zq _ _ ([])) (ZG (hT := tk) (Hp.le_refl _)) ?_
   all_goals (refine ZI 0 ?_; refine ZI 1 ?_; refine rSl 2 ?_; refine ZI 3 ?_; refine ZI 4 ?_; refine rSl 5 ?_)
   all_goals (refine Zt (i := 6) ?_; ((try refine Zn ?_); (first | (simp only [Int.toNat_natCast, t1, hlen0]; refine Zk (y_append0 rfl rfl (by omega)) rfl rfl ?_) | (refine Zm ?_; try intro _)) <;> ((try simp only [kM, kN, kO]); refine Zb ?_; refine Zo ?_)))
   all_goals (refine ZK ?_; refine rAs 7 ?_; refine ZE ?_)
   repeat' (first | (refine Zz ?_; refine Zk (Zc rfl) rfl rfl ?_) | (refine Zh ?_; first | (refine Zf ?_; refine qQ ?_) | refine Zm ?_) | refine Zb ?_ | (refine Zi ?_; refine Zr ?_) | (refine Zj ?_; refine Zs ?_) | intro _)
   simp only [Int.toNat_natCast, if_neg hni, Option.map_some, Yo, Nat.zero_add, tl1]
   refine tl_clear1 (sz := 2) (zs := [.int .i64 0, .int .u64 0]) rfl rfl rfl (by simp only [List.length_append]; omega) ?_
   rw [hst]
   repeat' (first | (refine Zz ?_; refine Zk (Zc rfl) rfl rfl ?_) | (refine Zh ?_; first | (refine Zf ?_; refine qQ ?_) | refine Zm ?_) | refine Zb ?_ | (refine Zi ?_; refine Zr ?_) | (refine Zj ?_; refine Zs ?_) | intro _)
   rw [← hli]
   exact qE (L' := [[(b, .cells ⟨A ++ ([.int .i64 0, .int .u64 0] ++ sp)⟩ 92 (0, 0))]]) ⟨rfl, _, hz _ rfl, rfl⟩
  ·have hni : ¬ vc = i + 1 := by omega
   have hn1 : i + (l.length - (i + 1)) = l.length - 1 := by omega
   have hst1 : stc (A ++ (M ++ D) ++ sp) (i * 2) D = A ++ (D ++ ((M ++ D).drop D.length ++ sp)) := by
    have hx : A ++ (M ++ D) ++ sp = A ++ ((M ++ D).take D.length ++ ((M ++ D).drop D.length ++ sp)) := by
     rw [← List.append_assoc ((M ++ D).take D.length), List.take_append_drop, List.append_assoc]
    rw [hx, ← hAl2, stcN_mid (by rw [List.length_take, List.length_append]; omega)]
   have hZl : ((M ++ D).drop D.length).length = 2 := by rw [List.length_drop, List.length_append]; omega
   generalize hZZ : (M ++ D).drop D.length = Z at *
   have tn : ((l.length - 1 : Nat) : Int).toNat = l.length - 1 := by omega
   have tl1 : l.length - (l.length - 1) = 1 := by omega
   have hni2 : ¬ vc = l.length - 1 := by omega
   have hst2 : stc (A ++ (D ++ (Z ++ sp))) ((l.length - 1) * 2) [.int .i64 0, .int .u64 0] = A ++ D ++ ([.int .i64 0, .int .u64 0] ++ sp) := by
    have : (A ++ D).length = (l.length - 1) * 2 := by rw [List.length_append]; omega
    rw [← this, ← List.append_assoc, stcN_mid (by rw [hZl]; rfl)]
   repeat' (first | (refine Zz ?_; refine Zk (Zc rfl) rfl rfl ?_) | (refine Zh ?_; first | (refine Zf ?_; refine qQ ?_) | refine Zm ?_) | refine Zb ?_ | (refine Zi ?_; refine Zr ?_) | (refine Zj ?_; refine Zs ?_) | intro _)
   refine ZB (Zq _ _ ([])) (ZG (hT := tk) (Hp.le_refl _)) ?_
   all_goals (refine ZI 0 ?_; refine ZI 1 ?_; refine rSl 2 ?_; refine ZI 3 ?_; refine ZI 4 ?_; refine rSl 5 ?_)
   all_goals (refine Zt (i := 6) ?_; ((try refine Zn ?_); (first | (simp only [Int.toNat_natCast, t1, if_neg hni, Option.map_some, Yo, Nat.zero_add]; refine tl_appIn (ys := D) (n := i) (m := l.length - (i + 1)) rfl rfl (Src.find (n := D.length) (by rw [← List.append_assoc, List.append_assoc, List.drop_left' (by rw [List.length_append]; omega), List.take_left' rfl])) hDl hDone (by omega) (by simp only [List.length_append]; omega) rfl ?_; rw [hst1, hn1]) | (refine Zm ?_; try intro _)) <;> ((try simp only [kM, kN, kO]); refine Zb ?_; refine Zo ?_)))
   all_goals (refine ZK ?_; refine rAs 7 ?_; refine ZE ?_)
   repeat' (first | (refine Zz ?_; refine Zk (Zc rfl) rfl rfl ?_) | (refine Zh ?_; first | (refine Zf ?_; refine qQ ?_) | refine Zm ?_) | refine Zb ?_ | (refine Zi ?_; refine Zr ?_) | (refine Zj ?_; refine Zs ?_) | intro _)
   simp only [Int.toNat_natCast, tn, if_neg hni2, Option.map_some, Yo, Nat.zero_add, tl1]
   refine tl_clear1 (sz := 2) (zs := [.int .i64 0, .int .u64 0]) rfl rfl rfl (by simp only [List.length_append]; omega) ?_
   rw [hst2]
   repeat' (first | (refine Zz ?_; refine Zk (Zc rfl) rfl rfl ?_) | (refine Zh ?_; first | (refine Zf ?_; refine qQ ?_) | refine Zm ?_) | refine Zb ?_ | (refine Zi ?_; refine Zr ?_) | (refine Zj ?_; refine Zs ?_) | intro _)
   exact qE (L' := [[(b, .cells ⟨A ++ D ++ ([.int .i64 0, .int .u64 0] ++ sp)⟩ 92 (0, 0))]]) ⟨rfl, _, hz _ rfl, rfl⟩
theorem at_own (ρ : Hp) (v : Value) (sp : List Value) (l : List Yp) (hl : l.length ≤ 1000000) (hown : OwnS v l.length (Ya l) sp 2) (page : Int) :
  Spec Tryz.prog 128 [v, .int .i64 page] ρ [ZN v (Ya l) sp 92] (fun z ρ' L' => ρ' = ρ ∧ ∃ i there, z = .tuple ⟨[.int .i64 (i : Nat), .bool there]⟩ ∧ AtR l page i there ∧ L' = [ZN v (Ya l) sp 92]) := by
 refine (Spec.thaw (C := [ZN v (Ya l) sp 92]) (L := []) (Post := fun z L' => ∃ i there, z = .tuple ⟨[.int .i64 (i : Nat), .bool there]⟩ ∧ AtR l page i there ∧ L' = []) (fun ρ1 hle hf => ?_)).mono ?_
 ·obtain ⟨a, c, rfl, hc, hA⟩ := hown.aIn rfl (fun x _ => Wd x) (by simpa using hf)
  exact at_spec ρ1 ⟨a, l.length, c⟩ l ⟨hA, hl, hc⟩ page
 ·rintro z ρ' L' _ ⟨rfl, L2, ⟨i, there, rfl, h1, rfl⟩, rfl⟩
  exact ⟨rfl, i, there, rfl, h1, rfl⟩
def addP (page : Int) (lsn : Nat) : List Yp → List Yp
 | [] => [⟨page, lsn⟩]
 | p :: r => if p.page < page then p :: addP page lsn r else if p.page = page then p :: r else ⟨page, lsn⟩ :: p :: r
def touchI (lsn : Nat) : List Im → List Yp → List Yp
 | [], l => l
 | x :: r, l => touchI lsn r (addP x.page lsn l)
def Xd (r : Rc) (l : List Yp) : List Yp := touchI r.lsn r.ims l
def delP (page : Int) (l : List Yp) : List Yp := l.filter (fun p => decide (p.page ≠ page))
def XG (page : Int) (l : List Yp) : Option Yp := l.find? (fun p => decide (p.page = page))
theorem addP_in {page : Int} {lsn : Nat} : ∀ {l : List Yp} {i : Nat} (h : i < l.length), (∀ j (h : j < l.length), j < i → l[j].page < page) → l[i].page = page → addP page lsn l = l
 | p :: r, 0, h, _, he => by simp at he; simp [addP, he]
 | p :: r, i + 1, h, hlt, he => by
  have h0 := hlt 0 (by simp) (by omega)
  simp only [List.getElem_cons_zero] at h0
  rw [addP, if_pos h0, addP_in (i := i) (by simpa using h) (fun j hj hji => by have := hlt (j + 1) (by simpa using hj) (by omega); simpa using this) (by simpa using he)]
theorem addP_out {page : Int} {lsn : Nat} : ∀ {l : List Yp} {i : Nat} (h : i ≤ l.length), (∀ j (h : j < l.length), j < i → l[j].page < page) → (∀ j (h : j < l.length), i ≤ j → page < l[j].page) → addP page lsn l = l.take i ++ ⟨page, lsn⟩ :: l.drop i
 | [], 0, _, _, _ => rfl
 | p :: r, 0, _, _, hi => by
  have h0 := hi 0 (by simp) (by omega)
  simp only [List.getElem_cons_zero] at h0
  rw [addP, if_neg (by omega), if_neg (by omega)]; rfl
 | p :: r, i + 1, h, hlt, hi => by
  have h0 := hlt 0 (by simp) (by omega)
  simp only [List.getElem_cons_zero] at h0
  rw [addP, if_pos h0, addP_out (i := i) (by simpa using h) (fun j hj hji => by have := hlt (j + 1) (by simpa using hj) (by omega); simpa using this) (fun j hj hji => by have := hi (j + 1) (by simpa using hj) (by omega); simpa using this)]
  rfl
theorem addP_tbl {page : Int} {lsn : Nat} (h64 : page < 64) (h1 : 1 ≤ lsn) (h2 : lsn ≤ 1099511627776) : ∀ {l : List Yp} {last : Int}, last < page → Wn last l = true → Wn last (addP page lsn l) = true
 | [], last, hp, _ => by simp [addP, Wn]; omega
 | p :: r, last, hp, h => by
  rw [Wn, Bool.and_eq_true, decide_eq_true_eq] at h
  rw [addP]
  split
  ·rw [Wn, Bool.and_eq_true, decide_eq_true_eq]
   exact ⟨h.1, addP_tbl h64 h1 h2 (by omega) h.2⟩
  ·split
   ·rw [Wn, Bool.and_eq_true, decide_eq_true_eq]; exact h
   ·rw [Wn, Bool.and_eq_true, decide_eq_true_eq]
    refine ⟨by dsimp only; omega, ?_⟩
    rw [Wn, Bool.and_eq_true, decide_eq_true_eq]
    exact ⟨by dsimp only; omega, h.2⟩
theorem addP_len {page : Int} {lsn : Nat} : ∀ {l : List Yp}, (addP page lsn l).length ≤ l.length + 1
 | [] => by simp [addP]
 | p :: r => by
  rw [addP]
  have := addP_len (page := page) (lsn := lsn) (l := r)
  split
  ·simp only [List.length_cons]; omega
  ·split <;> simp
theorem AtR.add {l : List Yp} {page : Int} {lsn i : Nat} {there : Bool} (h : AtR l page i there) (ht : YE l = true) : addP page lsn l = if there then l else l.take i ++ ⟨page, lsn⟩ :: l.drop i := by
 cases there with
 | true =>
  obtain ⟨h1, h2⟩ := h.hit rfl
  rw [if_pos rfl]
  exact addP_in h1 (h.lo ht) h2
 | false =>
  rw [if_neg (by simp)]
  exact addP_out h.le (h.lo ht) (h.hi ht rfl)
theorem AtR.rec' {l : List Yp} {page : Int} {i : Nat} {there : Bool} (h : AtR l page i there) (ht : YE l = true) : XG page l = if there then l[i]? else none := by
 unfold XG
 cases there with
 | true =>
  obtain ⟨h1, h2⟩ := h.hit rfl
  rw [if_pos rfl, List.getElem?_eq_getElem h1, List.find?_eq_some_iff_getElem]
  refine ⟨by simpa using h2, i, h1, rfl, fun j hj => ?_⟩
  have := h.lo ht j (by omega) hj
  simp; omega
 | false =>
  rw [if_neg (by simp), List.find?_eq_none]
  intro p hp
  obtain ⟨j, hj, rfl⟩ := List.mem_iff_getElem.1 hp
  by_cases e : j < i
  ·have := h.lo ht j hj e; simp; omega
  ·have := h.hi ht rfl j hj (by omega); simp; omega
theorem AtR.del {l : List Yp} {page : Int} {i : Nat} (h : AtR l page i true) (ht : YE l = true) : delP page l = l.take i ++ l.drop (i + 1) := by
 obtain ⟨h1, h2⟩ := h.hit rfl
 have h3 := (tblB_lt ht).2
 unfold delP
 conv => lhs; rw [← List.take_append_drop i l, List.drop_eq_getElem_cons h1]
 rw [List.filter_append, List.filter_cons, if_neg (by simp [h2])]
 congr 1
 ·rw [List.filter_eq_self]
  intro p hp
  obtain ⟨j, hj, rfl⟩ := List.mem_take_iff_getElem.1 hp
  have := h.lo ht j (by omega) (by omega)
  simp; omega
 ·rw [List.filter_eq_self]
  intro p hp
  obtain ⟨j, hj, rfl⟩ := List.mem_drop_iff_getElem.1 hp
  have := h3 i (i + 1 + j) (by omega) (by omega)
  simp; omega
abbrev pC (pb : Nat) (v : Value) : List (Nat × Obj) := [(pb, .cells ⟨[v]⟩ 32 (0, 0))]
theorem with_spec (ρ : Hp) (s : SV) (l : List Yp) (h : AS ρ 2 YM s l) (F : Nat) [hF : Yk Tryz.prog F] (cs : List Value) (X : SH) (e : Int) (l' : List Yp) (hl' : l'.length ≤ 1000000)
  (hdo : YE l = true → ∀ pb v sp, OwnS v l.length (Ya l) sp 2 → Spec Tryz.prog F (.pointer (some ⟨pb, 0, none⟩) :: cs) ρ ([pC pb v, ZN v (Ya l) sp 92] ++ X)
   (fun z ρ' L' => z = .int .i64 e ∧ ρ' = ρ ∧ ∃ v' sp', OwnS v' l'.length (Ya l') sp' 2 ∧ L' = [pC pb v', ZN v' (Ya l') sp' 92] ++ X)) :
  Spec Tryz.prog 126 [.slice s.a s.n s.c, .func (.func F) ⟨[]⟩ ⟨cs⟩] ρ X
   (fun z ρ' L' => ρ.le ρ' ∧ ∃ s' : SV, z = .tuple ⟨[.slice s'.a s'.n s'.c, .int .i64 (if YE l then e else 320)]⟩ ∧ AS ρ' 2 YM s' (if YE l = true ∧ e = 0 then l' else []) ∧ L' = X) := by
 have hl := h.at'.len
 have hn := h.big
 have hck := ckcheck_spec ρ s l h
 have hcl := clonep_spec ρ s l h
 refine Zg Tryz.func126 rfl rfl rfl fun u R => ?_
 simp only [Zx, List.cons_append, List.nil_append]
 cases hok : YE l
 ·rw [hok] at hck
  simp only [Bool.false_eq_true, if_false, false_and] at hck ⊢
  repeat' (first | (refine Ze (.func 107) ?_; refine qC rfl rfl (hck) ?_; rintro v ρ' L' hle ⟨rfl, rfl, rfl⟩ <;> (try simp only [kM, kN, kO])) | (refine Zz ?_; refine Zk (Zc rfl) rfl rfl ?_) | (refine Zh ?_; first | (refine Zf ?_; refine qQ ?_) | refine Zm ?_) | refine Zb ?_ | (refine Zi ?_; refine Zr ?_) | (refine Zj ?_; refine Zs ?_) | intro _)
  exact qE (L' := X) ⟨Hp.le_refl _, Yz, rfl, AS.nil, rfl⟩
 ·rw [hok] at hck
  simp only [if_true, true_and] at hck ⊢
  have hdo1 := hdo hok
  repeat' (first | (refine Ze (.func 107) ?_; refine qC rfl rfl (hck) ?_; rintro v ρ' L' hle ⟨rfl, rfl, rfl⟩ <;> (try simp only [kM, kN, kO])) | (refine Ze (.func 117) ?_; refine qC rfl rfl (hcl) ?_; rintro v ρ' L' hle ⟨rfl, sp, hown, rfl⟩ <;> (try simp only [kM, kN, kO])) | (refine Zz ?_; refine Zk (Zc rfl) rfl rfl ?_) | (refine Zh ?_; first | (refine Zf ?_; refine qQ ?_) | refine Zm ?_) | refine Zb ?_ | (refine Zi ?_; refine Zr ?_) | (refine Zj ?_; refine Zs ?_) | intro _)
  obtain ⟨va, vc, rfl, hvc⟩ := hown.slice
  rename_i pb
  by_cases he : e = 0
  ·subst he
   simp only [if_true]
   repeat' (first | (refine Ze (.tmp 16) ?_; refine qC rfl rfl (hdo1 pb _ sp hown) ?_; rintro v ρ' L' hle ⟨rfl, rfl, v', sp', hown', rfl⟩ <;> (try simp only [kM, kN, kO])) | (refine Zz ?_; refine Zk (Zc rfl) rfl rfl ?_) | (refine Zh ?_; first | (refine Zf ?_; refine qQ ?_) | refine Zm ?_) | refine Zb ?_ | (refine Zi ?_; refine Zr ?_) | (refine Zj ?_; refine Zs ?_) | intro _)
   refine XX (ZN v' (Ya l') sp' 92) (fun ρ3 hle3 hfz => ?_)
   obtain ⟨sa, sc, e1, hsc, hA2⟩ := hown'.aIn rfl (fun x _ => Wd x) hfz
   subst e1
   exact qE (L' := X) ⟨hle3, ⟨sa, l'.length, sc⟩, rfl, ⟨hA2, hl', hsc⟩, rfl⟩
  ·simp only [he, if_false]
   repeat' (first | (refine Ze (.tmp 16) ?_; refine qC rfl rfl (hdo1 pb _ sp hown) ?_; rintro v ρ' L' hle ⟨rfl, rfl, v', sp', hown', rfl⟩ <;> (try simp only [kM, kN, kO])) | (refine Zz ?_; refine Zk (Zc rfl) rfl rfl ?_) | (refine Zh ?_; first | (refine Zf ?_; refine qQ ?_) | refine Zm ?_) | refine Zb ?_ | (refine Zi ?_; refine Zr ?_) | (refine Zj ?_; refine Zs ?_) | intro _)
   exact qE (L' := X) ⟨Hp.le_refl _, Yz, rfl, AS.nil, rfl⟩
abbrev recC (rb : Nat) (v : RV) (r : Rc) : List (Nat × Obj) := [(rb, .cells ⟨YR v r⟩ 34 (0, 0))]
theorem touchI_len {lsn : Nat} : ∀ {xs : List Im} {l : List Yp}, (touchI lsn xs l).length ≤ l.length + xs.length
 | [], l => by simp [touchI]
 | x :: r, l => by
  rw [touchI]
  have h1 := touchI_len (lsn := lsn) (xs := r) (l := addP x.page lsn l)
  have h2 := addP_len (page := x.page) (lsn := lsn) (l := l)
  simp only [List.length_cons]; omega
theorem touch1_spec (ρ : Hp) (l : List Yp) (hl : l.length ≤ 1000) (ht : YE l = true) (v : RV) (r : Rc) (h : RcIn ρ v r) (hi : v.i.n ≤ 1000) (pb rb : Nat) (vv : Value) (sp : List Value) (hown : OwnS vv l.length (Ya l) sp 2) :
  Spec Tryz.prog 127 [.pointer (some ⟨pb, 0, none⟩), .pointer (some ⟨rb, 0, none⟩)] ρ ([pC pb vv, ZN vv (Ya l) sp 92] ++ [recC rb v r])
   (fun z ρ' L' => z = .int .i64 (if ZZ r then 0 else 220) ∧ ρ' = ρ ∧ ∃ v' sp', OwnS v' (if ZZ r then Xd r l else l).length (Ya (if ZZ r then Xd r l else l)) sp' 2 ∧ L' = [pC pb v', ZN v' (Ya (if ZZ r then Xd r l else l)) sp' 92] ++ [recC rb v r]) := by
 have hck := XC ρ v r h
 have hin := h.i.at'.len
 have hA := h.i.at'
 refine Zg Tryz.func127 rfl rfl rfl fun u R => ?_
 simp only [Zx, List.cons_append, List.nil_append]
 cases hok : ZZ r
 ·rw [hok] at hck
  simp only [Bool.false_eq_true, if_false] at hck ⊢
  repeat' (first | (refine Ze (.func 52) ?_; refine qC rfl rfl (hck) ?_; rintro v ρ' L' hle ⟨rfl, rfl, rfl⟩ <;> (try simp only [kM, kN, kO])) | (refine Zz ?_; refine Zk (Zc rfl) rfl rfl ?_) | (refine Zh ?_; first | (refine Zf ?_; refine qQ ?_) | refine Zm ?_) | refine Zb ?_ | (refine Zi ?_; refine Zr ?_) | (refine Zj ?_; refine Zs ?_) | intro _)
  exact qE (L' := [pC pb vv, ZN vv (Ya l) sp 92, recC rb v r]) ⟨rfl, rfl, vv, sp, hown, rfl⟩
 ·rw [hok] at hck
  simp only [if_true] at hck ⊢
  have hfacts : (1 ≤ r.lsn ∧ r.lsn ≤ 1099511627776) ∧ (r.ims ≠ [] → ∀ x ∈ r.ims, pageOk x.page = true) := by
   unfold ZZ at hok
   simp only [Bool.and_eq_true, decide_eq_true_eq] at hok
   obtain ⟨_, hh, ha, hb⟩ := hok
   unfold headOk at hh
   rw [decide_eq_true_eq] at hh
   refine ⟨⟨hh.1, hh.2.1⟩, fun hne x hx => ?_⟩
   have him : ∃ b, imsOk b r.ims = true := by
    unfold bareOk at hb
    rw [decide_eq_true_eq] at hb
    rcases hb.2.1 with h0 | h2 | h5
    ·exact absurd h0 hne
    ·unfold askOk at ha; rw [if_pos h2, Bool.and_eq_true] at ha; exact ⟨true, ha.2⟩
    ·unfold askOk at ha
     rw [if_neg (by omega), if_neg (by omega), if_neg (by omega), if_pos h5, Bool.and_eq_true] at ha; exact ⟨false, ha.2⟩
   obtain ⟨b, him⟩ := him
   unfold imsOk upB at him
   rw [Bool.and_eq_true] at him
   obtain ⟨j, hj, rfl⟩ := List.mem_iff_getElem.1 hx
   have := ((XQ him.2 (Nat.le_refl _)).2 j hj hj).1
   unfold imOk at this
   rw [Bool.and_eq_true] at this
   exact this.1
  obtain ⟨⟨hl1, hl2⟩, hpg⟩ := hfacts
  unfold Xd
  generalize hQ : touchI r.lsn r.ims l = Q
  repeat' (first | (refine Ze (.func 52) ?_; refine qC rfl rfl (hck) ?_; rintro v ρ' L' hle ⟨rfl, rfl, rfl⟩ <;> (try simp only [kM, kN, kO])) | (refine Zz ?_; refine Zk (Zc rfl) rfl rfl ?_) | (refine Zh ?_; first | (refine Zf ?_; refine qQ ?_) | refine Zm ?_) | refine Zb ?_ | (refine Zi ?_; refine Zr ?_) | (refine Zj ?_; refine Zs ?_) | intro _)
  refine ZC [(0, _), (1, _), (3, _), (15, _), (16, _)] (fun (ζ : (Nat) × (Value) × (List Value) × (List Yp)) => [(17, .int .i64 ζ.1)]) (fun (ζ : (Nat) × (Value) × (List Value) × (List Yp)) => ρ') (fun (ζ : (Nat) × (Value) × (List Value) × (List Yp)) => [pC pb ζ.2.1, ZN ζ.2.1 (Ya ζ.2.2.2) ζ.2.2.1 92, recC rb v r]) (fun (ζ : (Nat) × (Value) × (List Value) × (List Yp)) => ζ.1 ≤ v.i.n ∧ OwnS ζ.2.1 ζ.2.2.2.length (Ya ζ.2.2.2) ζ.2.2.1 2 ∧ YE ζ.2.2.2 = true ∧ ζ.2.2.2.length ≤ 1000 + ζ.1 ∧ touchI r.lsn (r.ims.drop ζ.1) ζ.2.2.2 = Q) (fun (ζ : (Nat) × (Value) × (List Value) × (List Yp)) => v.i.n - ζ.1) ((0, vv, sp, l)) (⟨Nat.zero_le _, hown, ht, by omega, hQ⟩) Zl Zl rfl tk ?_
  rintro ⟨k, v1, sp1, l1⟩ hI
  try simp only [List.cons_append, List.nil_append, List.append_assoc, List.append_eq] at hI ⊢
  try dsimp only at hI ⊢
  obtain ⟨hk, hown1, ht1, hlen1, hq1⟩ := hI
  obtain ⟨va, vc, rfl, hvc⟩ := hown1.slice
  by_cases hlt : k < v.i.n
  ·obtain ⟨b, off, C, T, fr, e1, hb, hfit, hc⟩ := hA.get (show k < r.ims.length by omega)
   have hmem := List.getElem_mem (show k < r.ims.length by omega)
   rw [List.drop_eq_getElem_cons (show k < r.ims.length by omega), touchI] at hq1
   generalize r.ims[k]'(by omega) = x at *
   have hpx := hpg (List.ne_nil_of_mem hmem) x hmem
   unfold pageOk at hpx
   rw [decide_eq_true_eq] at hpx
   have hat := at_own ρ' (.slice va l1.length vc) sp1 l1 (by omega) hown1 x.page
   rw [e1]
   repeat' (first | (refine Zz ?_; refine Zk (Zc rfl) rfl rfl ?_) | (refine Zh ?_; first | (refine Zf ?_; refine qQ ?_) | refine Zm ?_) | refine Zb ?_ | (refine Zi ?_; refine Zr ?_) | (refine Zj ?_; refine Zs ?_) | intro _)
   rename_i xb
   refine ZB (Zq _ _ ([pC pb (.slice va l1.length vc), [(xb, .cells ⟨imV x⟩ 100 (0, 0))]])) (ZG (hT := tk) (Hp.le_refl _)) ?_
   all_goals (refine ZI 0 ?_; refine rNc 1 ?_; refine ZU 2 ?_; refine ZO 3 ?_; refine ZU 4 ?_)
   all_goals (refine Zt (i := 5) ?_; ((try refine Zn ?_); (first | (refine Ze (.func 128) ?_; refine qC rfl rfl (hat) ?_; rintro v ρ' L' hle ⟨rfl, i, there, rfl, hAt, rfl⟩ <;> (try simp only [kM, kN, kO])) | (refine Zm ?_; try intro _)) <;> ((try simp only [kM, kN, kO]); refine Zb ?_; refine Zo ?_)))
   all_goals (refine ZK ?_; refine ZI 6 ?_; refine rEx 7 ?_; refine rEx 8 ?_; refine rAs 9 ?_; refine rAs 10 ?_; refine ZE ?_)
   have hadd := hAt.add (lsn := r.lsn) ht1
   have htb := addP_tbl (page := x.page) (lsn := r.lsn) hpx.2 hl1 hl2 (show (-1 : Int) < x.page by omega) ht1
   have hal := addP_len (page := x.page) (lsn := r.lsn) (l := l1)
   cases there
   ·rw [if_neg (by simp)] at hadd
    repeat' (first | (refine Zz ?_; refine Zk (Zc rfl) rfl rfl ?_) | (refine Zh ?_; first | (refine Zf ?_; refine qQ ?_) | refine Zm ?_) | refine Zb ?_ | (refine Zi ?_; refine Zr ?_) | (refine Zj ?_; refine Zs ?_) | intro _)
    refine tc_phase 13 (Zq _ _ ([pC pb (.slice va l1.length vc), [(xb, .cells ⟨imV x⟩ 100 (0, 0))], recC rb v r])) (by decide +kernel) (ZG (hT := tk) (Hp.le_refl _)) ?_
    simp only [List.take_succ_cons, List.take_zero]
    all_goals (refine ZI 0 ?_; refine ZI 1 ?_; refine rNc 2 ?_; refine ZU 3 ?_; refine ZI 4 ?_; refine ZO 5 ?_; refine ZU 6 ?_; refine ZO 7 ?_; refine ZU 8 ?_)
    all_goals refine rBu 9 ?_ (y := fun _ _ => Zc rfl)
    all_goals (refine Zt (i := 10) ?_; ((try refine Zn ?_); (first | (refine ZS (css := [YM ⟨x.page, r.lsn⟩]) (sz := 2) rfl rfl rfl rfl (by simp) (by simp) rfl (fun bs => ?_); simp only [List.flatten_cons, List.flatten_nil, List.append_nil]) | (refine Zm ?_; try intro _)) <;> ((try simp only [kM, kN, kO]); refine Zb ?_; refine Zo ?_)))
    all_goals (refine Zt (i := 11) ?_; ((try refine Zn ?_); (first | (refine Ze (.func 129) ?_; refine qC rfl rfl (insert_spec _ _ sp1 l1 (by omega) hown1 i hAt.le _ ⟨x.page, r.lsn⟩) ?_; rintro v ρ' L' hle ⟨rfl, sp2, hown2, rfl⟩ <;> (try simp only [kM, kN, kO])) | (obtain ⟨va2, vc2, rfl, hvc2⟩ := hown2.slice; refine Zm ?_) | (refine Zm ?_; try intro _)) <;> ((try simp only [kM, kN, kO]); refine Zb ?_; refine Zo ?_)))
    all_goals (refine rNc 12 ?_; refine ZE ?_)
    all_goals refine te_phase (fuel := 1) (m := [true, true, true, true, true, true, true, true, true, true, true, true, true, false]) (Zq _ _ ([])) rfl rfl (ZG (hT := tk) (Hp.le_refl _)) ?_
    all_goals (refine Zt (i := 13) ?_; ((try refine Zn ?_); (first | (obtain ⟨va2, vc2, rfl, hvc2⟩ := hown2.slice; refine Zm ?_) | (refine Zm ?_; try intro _)) <;> ((try simp only [kM, kN, kO]); refine Zb ?_; refine Zo ?_)))
    all_goals refine ZE ?_
    all_goals (repeat' (first | (refine Zz ?_; refine Zk (Zc rfl) rfl rfl ?_) | (refine Zh ?_; first | (refine Zf ?_; refine qQ ?_) | refine Zm ?_) | refine Zb ?_ | (refine Zi ?_; refine Zr ?_) | (refine Zj ?_; refine Zs ?_) | intro _))
    rw [← hadd] at hown2 ⊢
    have hln : l1.length + 1 = (addP x.page r.lsn l1).length := by rw [hadd]; have := hAt.le; simp; omega
    rw [hln] at hown2 ⊢
    rw [← e1]
    refine Zp (k + 1, _, sp2, addP x.page r.lsn l1) (⟨hlt, hown2, htb, by dsimp only; omega, hq1⟩) Zl Zl rfl tk inferInstance (by first | omega | (dsimp only; omega))
   ·rw [if_pos rfl] at hadd
    rw [hadd] at hq1
    repeat' (first | (refine Zz ?_; refine Zk (Zc rfl) rfl rfl ?_) | (refine Zh ?_; first | (refine Zf ?_; refine qQ ?_) | refine Zm ?_) | refine Zb ?_ | (refine Zi ?_; refine Zr ?_) | (refine Zj ?_; refine Zs ?_) | intro _)
    rw [← e1]
    refine Zp (k + 1, _, sp1, l1) (⟨hlt, hown1, ht1, by dsimp only; omega, hq1⟩) Zl Zl rfl tk inferInstance (by first | omega | (dsimp only; omega))
  ·have hk2 : k = r.ims.length := by omega
   rw [hk2, List.drop_length, touchI] at hq1
   subst hq1
   repeat' (first | (refine Zz ?_; refine Zk (Zc rfl) rfl rfl ?_) | (refine Zh ?_; first | (refine Zf ?_; refine qQ ?_) | refine Zm ?_) | refine Zb ?_ | (refine Zi ?_; refine Zr ?_) | (refine Zj ?_; refine Zs ?_) | intro _)
   exact qE (L' := [pC pb (.slice va l1.length vc), ZN (.slice va l1.length vc) (Ya l1) sp1 92, recC rb v r]) ⟨rfl, rfl, _, sp1, hown1, rfl⟩
end Go.Proofs.E
