/- Laws of analysis. Part 14 of 41. -/
import Derived.Test.YtkbiahafeoillaaGreatA13
namespace Go.Proofs.E
open Go
set_option linter.unusedVariables false
set_option linter.unusedSimpArgs false
set_option linter.unusedSectionVars false
set_option maxRecDepth 4000
set_option maxHeartbeats 1000000
attribute [local irreducible] Yl TL TC TE Spec Xb R1 Hp.le EnvLe TS TR YS Zk
def ckOf (x : Tx) : CkT := ⟨x.num, x.first, x.last, x.undo, x.state⟩
def tblB : Int → List Yq → Bool
 | _, [] => true
 | last, p :: r => decide (last < p.page ∧ p.page < 64 ∧ 1 ≤ p.since ∧ p.since ≤ 1099511627776) && tblB p.page r
def Xs (d : List Yq) : Bool := tblB (-1) d
theorem ckcheck_spec (ρ : Hp) (s : SV) (l : List Yq) (h : AS ρ 2 YG s l) : Spec Tryz.prog 107 [.slice s.a s.n s.c] ρ [] (fun z ρ' L' => z = .int .i64 (if Xs l then 0 else 320) ∧ ρ' = ρ ∧ L' = []) := by
 have hl := h.at'.len
 have hn := h.big
 have hA := h.at'
 generalize hq : Xs l = q
 unfold Xs at hq
 refine Zd Tryz.func107 rfl rfl rfl fun u R => ?_
 simp only [Zo, List.cons_append, List.nil_append]
 repeat' (first | refine zV ?_ | intro _)
 refine Zq [(6, _), (7, _)] (fun (ζ : (Nat) × (Int)) => [(8, .int .i64 ζ.1), (2, .int .i64 0), (3, .int .i64 ζ.2)]) (fun (ζ : (Nat) × (Int)) => ρ) (fun (ζ : (Nat) × (Int)) => []) (fun (ζ : (Nat) × (Int)) => ζ.1 ≤ s.n ∧ tblB ζ.2 (l.drop ζ.1) = q) (fun (ζ : (Nat) × (Int)) => s.n - ζ.1) ((0, -1)) (⟨Nat.zero_le _, hq⟩) Ze Ze rfl tk ?_
 rintro ⟨k, last⟩ hI
 try simp only [List.cons_append, List.nil_append, List.append_assoc, List.append_eq] at hI ⊢
 try dsimp only at hI ⊢
 obtain ⟨hk, hok⟩ := hI
 by_cases hlt : k < s.n
 ·obtain ⟨b, off, C, T, fr, e1, hb, hfit, hc⟩ := hA.get (show k < l.length by omega)
  rw [List.drop_eq_getElem_cons (show k < l.length by omega), tblB] at hok
  generalize l[k]'(by omega) = y at *
  rw [e1]
  by_cases hy : last < y.page ∧ y.page < 64 ∧ 1 ≤ y.since ∧ y.since ≤ 1099511627776
  ·rw [decide_eq_true hy, Bool.true_and] at hok
   repeat' (first | refine zV ?_ | intro _)
   rw [← e1]
   refine Zg (k + 1, y.page) (⟨hlt, hok⟩) Ze Ze rfl tk inferInstance (by first | omega | (dsimp only; omega))
  ·rw [decide_eq_false hy, Bool.false_and] at hok
   subst hok
   repeat' (first | refine zV ?_ | (refine YL ?_; refine ZB rfl rfl (fun hb => ?_) (fun hb => ?_) <;> (try simp only [decide_eq_true_eq, decide_eq_false_iff_not, Bool.not_eq_true, Bool.not_eq_false, beq_iff_eq, bne_iff_ne, ne_eq, decide_eq_decide, Bool.not_eq_eq_eq_not, Bool.not_true, Bool.not_false, beq_eq_false_iff_ne, bne_eq_false_iff_eq, Bool.and_eq_true, Bool.or_eq_true, Bool.and_eq_false_imp, Bool.or_eq_false_iff, bq2, bqt, bqf] at hb)) | (refine ZS ?_; refine ZM rfl (fun hb => ?_) (fun hb => ?_) <;> (try simp only [decide_eq_true_eq, decide_eq_false_iff_not, Bool.not_eq_true, Bool.not_eq_false, beq_iff_eq, bne_iff_ne, ne_eq, decide_eq_decide, Bool.not_eq_eq_eq_not, Bool.not_true, Bool.not_false, beq_eq_false_iff_ne, bne_eq_false_iff_eq, Bool.and_eq_true, Bool.or_eq_true, Bool.and_eq_false_imp, Bool.or_eq_false_iff, bq2, bqt, bqf] at hb)) | intro _)
   all_goals first | exact qE ⟨rfl, rfl, rfl⟩ | (exfalso; omega)
 ·have hk2 : k = l.length := by omega
  rw [hk2, List.drop_length, tblB] at hok
  subst hok
  repeat' (first | refine zV ?_ | intro _)
  exact qE ⟨rfl, rfl, rfl⟩
theorem rosckpt_spec (ρ : Hp) (v : SV) (r : Ros) (h : RosIn ρ v r) : Spec Tryz.prog 116 [.agg ⟨XI v r⟩] ρ []
  (fun z ρ' L' => ρ.le ρ' ∧ ∃ s : SV, z = .slice s.a s.n s.c ∧ AS ρ' 5 XU s (if WB r then r.txns.map ckOf else []) ∧ L' = []) := by
 have hl := h.at'.at'.len
 have hn := h.at'.big
 have hA := h.at'.at'
 have hck := Ws ρ v r h
 refine Zd Tryz.func116 rfl rfl rfl fun u R => ?_
 simp only [Zo, List.cons_append, List.nil_append]
 cases hok : WB r
 ·rw [hok] at hck
  repeat' (first | (refine Zc (.func 55) ?_; refine qC rfl rfl (hck) ?_; rintro v ρ' L' hle ⟨rfl, rfl, rfl⟩ <;> (try simp only [kM, kN, kO, if_false, Bool.false_eq_true])) | refine zV ?_ | intro _)
  exact qE ⟨Hp.le_refl _, Yw, rfl, AS.nil, rfl⟩
 ·rw [hok] at hck
  simp only [if_true]
  repeat' (first | (refine Zc (.func 55) ?_; refine qC rfl rfl (hck) ?_; rintro v ρ' L' hle ⟨rfl, rfl, rfl⟩ <;> (try simp only [kM, kN, kO, if_true])) | refine zV ?_ | intro _)
  refine Zq [(2, _), (10, _), (11, _)] (fun (ζ : (Nat) × (Value) × (List Value)) => [(12, .int .i64 ζ.1), (3, ζ.2.1)]) (fun (ζ : (Nat) × (Value) × (List Value)) => ρ') (fun (ζ : (Nat) × (Value) × (List Value)) => [ZG ζ.2.1 ((((r.txns.take ζ.1).map ckOf).map XU).flatten) ζ.2.2 169]) (fun (ζ : (Nat) × (Value) × (List Value)) => ζ.1 ≤ v.n ∧ OwnS ζ.2.1 ζ.1 ((((r.txns.take ζ.1).map ckOf).map XU).flatten) ζ.2.2 5) (fun (ζ : (Nat) × (Value) × (List Value)) => v.n - ζ.1) ((0, .slice none 0 0, [])) (⟨Nat.zero_le _, OwnS.nil 5⟩) Ze Ze rfl tk ?_
  rintro ⟨k, vv, sp⟩ hI
  try simp only [List.cons_append, List.nil_append, List.append_assoc, List.append_eq] at hI ⊢
  try dsimp only at hI ⊢
  obtain ⟨hk, hown⟩ := hI
  by_cases hlt : k < v.n
  ·obtain ⟨b, off, C, T, fr, e1, hb, hfit, hc⟩ := hA.get (show k < r.txns.length by omega)
   have hx := List.take_succ_eq_append_getElem (show k < r.txns.length by omega)
   generalize r.txns[k]'(by omega) = x at *
   rw [e1]
   repeat' (first | refine zV ?_ | intro _)
   refine ZH (css := [XU (ckOf x)]) (sz := 5) rfl rfl rfl rfl (by simp) (by simp) rfl (fun bs => ?_)
   simp only [List.flatten_cons, List.flatten_nil, List.append_nil]
   refine ZZ (ys := XU (ckOf x)) (m := 1) rfl rfl hown (hR := by infer_instance) (SrcV.lit) rfl rfl (by decide) rfl (by omega) (by omega) rfl (fun v' sp' hown' => ?_)
   have hm : (((r.txns.take k).map ckOf).map XU).flatten ++ XU (ckOf x) = (((r.txns.take (k + 1)).map ckOf).map XU).flatten := by rw [hx]; simp
   rw [hm] at hown' ⊢
   repeat' (first | refine zV ?_ | intro _)
   rw [← e1]
   refine Zg (k + 1, v', sp') (⟨hlt, hown'⟩) Ze Ze rfl tk inferInstance (by first | omega | (dsimp only; omega))
  ·have hk2 : k = r.txns.length := by omega
   rw [show r.txns.take k = r.txns by rw [hk2, List.take_length]] at hown ⊢
   repeat' (first | refine zV ?_ | intro _)
   refine ZY (ZG vv (((r.txns.map ckOf).map XU).flatten) sp 169) (fun ρ3 hle3 hfz => ?_)
   obtain ⟨sa, sc, e1, hsc, hA2⟩ := hown.aIn (by simp; omega) (fun x _ => ckTV_len x) hfz
   subst e1
   exact qE ⟨hle3, ⟨sa, k, sc⟩, rfl, ⟨hA2, by dsimp only; omega, hsc⟩, rfl⟩
theorem RosIn.nil {ρ : Hp} : RosIn ρ Yw ⟨0, []⟩ := ⟨AS.nil, by simp⟩
theorem at1_spec (ρ : Hp) (p : Yq) (n : Int) : Spec Tryz.prog 166 [.agg ⟨YG p⟩, .int .i64 n] ρ [] (fun v ρ' L' => v = .int .i64 (cmpI p.page n) ∧ ρ' = ρ ∧ L' = []) := by
 refine Zd Tryz.func166 rfl rfl rfl fun u R => ?_
 simp only [Zo, List.cons_append, List.nil_append]
 repeat' (first | (refine Zc (.func 103) ?_; refine qC rfl rfl (cmpI_spec _ _ _) ?_; rintro v ρ' L' hle ⟨rfl, rfl, rfl⟩ <;> (try simp only [kM, kN, kO])) | refine zV ?_ | intro _)
 exact qE ⟨rfl, rfl, rfl⟩
structure AtR (l : List Yq) (page : Int) (i : Nat) (there : Bool) : Prop where
 le : i ≤ l.length
 hit : there = true → ∃ h : i < l.length, l[i].page = page
 lo : Xs l = true → ∀ j (h : j < l.length), j < i → l[j].page < page
 hi : Xs l = true → there = false → ∀ j (h : j < l.length), i ≤ j → page < l[j].page
theorem tblB_lt : ∀ {l : List Yq} {last : Int}, tblB last l = true → (∀ j (h : j < l.length), last < l[j].page ∧ l[j].page < 64 ∧ 1 ≤ l[j].since ∧ l[j].since ≤ 1099511627776) ∧ ∀ i j (h : j < l.length) (hij : i < j), (l[i]'(by omega)).page < l[j].page
 | [], _, _ => ⟨fun j h => by simp at h, fun i j h => by simp at h⟩
 | p :: r, last, h => by
  rw [tblB, Bool.and_eq_true, decide_eq_true_eq] at h
  obtain ⟨⟨h1, h2, h3, h4⟩, h5⟩ := h
  obtain ⟨g1, g2⟩ := tblB_lt h5
  refine ⟨fun j hj => ?_, fun i j hj hij => ?_⟩
  ·cases j with
   | zero => exact ⟨h1, h2, h3, h4⟩
   | succ j =>
    have := g1 j (by simpa using hj)
    simp only [List.getElem_cons_succ]
    exact ⟨by omega, this.2⟩
  ·cases j with
   | zero => omega
   | succ j =>
    cases i with
    | zero => simp only [List.getElem_cons_succ, List.getElem_cons_zero]; exact (g1 j (by simpa using hj)).1
    | succ i => simp only [List.getElem_cons_succ]; exact g2 i j (by simpa using hj) (by omega)
theorem search_spec (ρ : Hp) (a : Option Addr) (n c : Nat) (l : List Yq) (h : AIn ρ 2 YG a n l) (hn : n ≤ 1000000) (page : Int) :
  Spec Tryz.prog 165 [.slice a n c, .int .i64 page, .func (.func 166) ⟨[]⟩ ⟨[]⟩] ρ []
  (fun v ρ' L' => ρ' = ρ ∧ ∃ i there, v = .tuple ⟨[.int .i64 (i : Nat), .bool there]⟩ ∧ AtR l page i there ∧ L' = []) := by
 have hl := h.len
 refine Zd Tryz.func165 rfl rfl rfl fun u R => ?_
 simp only [Zo, List.cons_append, List.nil_append]
 repeat' (first | refine zV ?_ | intro _)
 refine Zq [(0, _), (1, _), (2, _), (6, _), (7, _), (8, _)] (fun (ζ : (Nat) × (Nat)) => [(9, .int .i64 ζ.1), (10, .int .i64 ζ.2)]) (fun (ζ : (Nat) × (Nat)) => ρ) (fun (ζ : (Nat) × (Nat)) => []) (fun (ζ : (Nat) × (Nat)) => ζ.1 ≤ ζ.2 ∧ ζ.2 ≤ n ∧ (Xs l = true → (∀ k (h : k < l.length), k < ζ.1 → l[k].page < page) ∧ ∀ k (h : k < l.length), ζ.2 ≤ k → page ≤ l[k].page)) (fun (ζ : (Nat) × (Nat)) => ζ.2 - ζ.1) ((0, n)) (⟨Nat.zero_le _, Nat.le_refl _, fun _ => ⟨fun k _ h => by omega, fun k h1 h2 => by omega⟩⟩) Ze Ze rfl tk ?_
 rintro ⟨i, j⟩ hI
 try simp only [List.cons_append, List.nil_append, List.append_assoc, List.append_eq] at hI ⊢
 try dsimp only at hI ⊢
 obtain ⟨hij, hj, hok⟩ := hI
 by_cases hlt : i < j
 ·have hm : ((i : Int) + (j : Int)) / 2 ^ 1 = (((i + j) / 2 : Nat) : Int) := by omega
  obtain ⟨b, off, C, T, fr, e1, hb, hfit, hc⟩ := h.get (show (i + j) / 2 < l.length by omega)
  have hq : ∀ x : Yq, l[(i + j) / 2]'(by omega) = x → (x.page < page → Xs l = true → (∀ k (h : k < l.length), k < (i + j) / 2 + 1 → l[k].page < page)) ∧ (page ≤ x.page → Xs l = true → ∀ k (h : k < l.length), (i + j) / 2 ≤ k → page ≤ l[k].page) := fun x hx => by
   refine ⟨fun hp ht k hk hk2 => ?_, fun hp ht k hk hk2 => ?_⟩
   ·have hs := (tblB_lt ht).2 k ((i + j) / 2) (by omega)
    by_cases e : k = (i + j) / 2
    ·subst e; rw [hx]; exact hp
    ·have := hs (by omega); rw [hx] at this; omega
   ·have hs := (tblB_lt ht).2 ((i + j) / 2) k hk
    by_cases e : k = (i + j) / 2
    ·subst e; rw [hx]; exact hp
    ·have := hs (by omega); rw [hx] at this; omega
  generalize hX : l[(i + j) / 2]'(by omega) = x at *
  obtain ⟨q1, q2⟩ := hq x rfl
  rw [e1]
  by_cases hlp : x.page < page
  ·have hcm : cmpI x.page page < 0 := by unfold cmpI; rw [if_pos hlp]; omega
   repeat' (first | (refine iSr ?_; refine tl_y (y_shr (c := 1) rfl rfl (by omega) (by simp [IntKind.bits])) rfl rfl ?_; rw [hm]) | (refine Zc (.tmp 24) ?_; refine qC rfl rfl (at1_spec _ _ _) ?_; rintro v ρ' L' hle ⟨rfl, rfl, rfl⟩ <;> (try simp only [kM, kN, kO])) | refine zV ?_ | intro _)
   rw [← e1]
   have hs1 := q1 hlp
   refine Zg ((i + j) / 2 + 1, j) (⟨by omega, hj, fun ht => ⟨hs1 ht, (hok ht).2⟩⟩) Ze Ze rfl tk inferInstance (by first | omega | (dsimp only; omega))
  ·have hcm : ¬ cmpI x.page page < 0 := by unfold cmpI; rw [if_neg hlp]; split <;> omega
   repeat' (first | (refine iSr ?_; refine tl_y (y_shr (c := 1) rfl rfl (by omega) (by simp [IntKind.bits])) rfl rfl ?_; rw [hm]) | (refine Zc (.tmp 24) ?_; refine qC rfl rfl (at1_spec _ _ _) ?_; rintro v ρ' L' hle ⟨rfl, rfl, rfl⟩ <;> (try simp only [kM, kN, kO])) | refine zV ?_ | intro _)
   rw [← e1]
   have hs2 := q2 (by omega)
   refine Zg (i, (i + j) / 2) (⟨by omega, by omega, fun ht => ⟨(hok ht).1, hs2 ht⟩⟩) Ze Ze rfl tk inferInstance (by first | omega | (dsimp only; omega))
 ·obtain rfl : i = j := by omega
  by_cases hin : i < n
  ·obtain ⟨b, off, C, T, fr, e1, hb, hfit, hc⟩ := h.get (show i < l.length by omega)
   have hX : l[i]'(by omega) = l[i]'(by omega) := rfl
   generalize hx : l[i]'(by omega) = x at hc hX
   rw [e1]
   by_cases hp : x.page = page
   ·have hcm : cmpI x.page page = 0 := by unfold cmpI; rw [hp]; simp
    repeat' (first | (refine Zc (.tmp 40) ?_; refine qC rfl rfl (at1_spec _ _ _) ?_; rintro v ρ' L' hle ⟨rfl, rfl, rfl⟩ <;> (try simp only [kM, kN, kO, hcm])) | refine zV ?_ | intro _)
    exact qE ⟨rfl, i, true, rfl, ⟨by omega, fun _ => ⟨by omega, by rw [hx]; exact hp⟩, fun ht => (hok ht).1, (fun _ e => nomatch e)⟩, rfl⟩
   ·have hcm : cmpI x.page page ≠ 0 := by unfold cmpI; split <;> (try split) <;> omega
    repeat' (first | (refine Zc (.tmp 40) ?_; refine qC rfl rfl (at1_spec _ _ _) ?_; rintro v ρ' L' hle ⟨rfl, rfl, rfl⟩ <;> (try simp only [kM, kN, kO])) | refine zV ?_ | intro _)
    refine qE ⟨rfl, i, false, rfl, ⟨by omega, (fun e => nomatch e), fun ht => (hok ht).1, fun ht _ k hk hik => ?_⟩, rfl⟩
    have h1 := (hok ht).2 k hk hik
    by_cases e : i = k
    ·subst e; rw [hx]; rw [hx] at h1; omega
    ·have h2 := (tblB_lt ht).2 i k hk (by omega)
     have h3 := (hok ht).2 i (by omega) (Nat.le_refl _)
     omega
  ·repeat' (first | refine zV ?_ | intro _)
   exact qE ⟨rfl, i, false, rfl, ⟨by omega, (fun e => nomatch e), fun ht => (hok ht).1, fun ht _ k hk hik => by omega⟩, rfl⟩
theorem at_spec (ρ : Hp) (s : SV) (l : List Yq) (h : AS ρ 2 YG s l) (page : Int) :
  Spec Tryz.prog 128 [.slice s.a s.n s.c, .int .i64 page] ρ [] (fun v ρ' L' => ρ' = ρ ∧ ∃ i there, v = .tuple ⟨[.int .i64 (i : Nat), .bool there]⟩ ∧ AtR l page i there ∧ L' = []) := by
 have hs := search_spec ρ s.a s.n s.c l h.at' h.big page
 refine Zd Tryz.func128 rfl rfl rfl fun u R => ?_
 simp only [Zo, List.cons_append, List.nil_append]
 repeat' (first | (refine Zc (.func 165) ?_; refine qC rfl rfl (hs) ?_; rintro v ρ' L' hle ⟨rfl, i, there, rfl, hA, rfl⟩ <;> (try simp only [kM, kN, kO])) | refine zV ?_ | intro _)
 exact qE ⟨rfl, i, there, rfl, hA, rfl⟩
abbrev Yy (l : List Yq) : List Value := (l.map YG).flatten
theorem flatP_one (l : List Yq) : (Yy l).all (·.oneCell') = true := by
 induction l with
 | nil => rfl
 | cons a r ih => simp only [Yy, List.map_cons, List.flatten_cons, List.all_append, Bool.and_eq_true]; exact ⟨rfl, ih⟩
theorem flatP_len (l : List Yq) : (Yy l).length = l.length * 2 := XC WE l
theorem OwnS.zero' (b sz : Nat) : OwnS (.slice (some ⟨b, 0, none⟩) 0 0) 0 [] [] sz := ⟨.inr ⟨b, 0, rfl, by simp, by simp, Nat.le_refl _⟩⟩
theorem clonep_spec (ρ : Hp) (s : SV) (l : List Yq) (h : AS ρ 2 YG s l) : Spec Tryz.prog 117 [.slice s.a s.n s.c] ρ []
  (fun v ρ' L' => ρ' = ρ ∧ ∃ sp, OwnS v l.length (Yy l) sp 2 ∧ L' = [ZG v (Yy l) sp 92]) := by
 have hl := h.at'.len
 have hn := h.big
 have hA := h.at'
 obtain ⟨a, n, c⟩ := s
 dsimp only at hl hn hA ⊢
 cases a with
 | none =>
  have hl0 : l = [] := by
   by_cases h0 : 0 < l.length
   ·obtain ⟨b, off, C, T, fr, h, _⟩ := hA.get h0
    cases h
   ·exact List.eq_nil_of_length_eq_zero (by omega)
  subst hl0
  refine Zd Tryz.func117 rfl rfl rfl fun u R => ?_
  simp only [Zo, List.cons_append, List.nil_append]
  repeat' (first | refine zV ?_ | intro _)
  exact qE (L' := [[]]) ⟨rfl, [], OwnS.nil 2, rfl⟩
 | some ad =>
  refine Zd Tryz.func117 rfl rfl rfl fun u R => ?_
  simp only [Zo, List.cons_append, List.nil_append]
  repeat' (first | refine zV ?_ | intro _)
  rename_i bx
  refine ZZ (n := 0) (xs := []) (sp := []) (ys := Yy l) (sz := 2) rfl rfl (OwnS.zero' _ 2) (hR := ZD) hA.srcV (by rw [flatP_len]; omega) (flatP_one l) (by decide) rfl (by omega) (by omega) rfl (fun v' sp' hown' => ?_)
  simp only [Nat.zero_add, List.nil_append] at hown' ⊢
  repeat' (first | refine zV ?_ | intro _)
  rw [← hl] at hown'
  exact qE ⟨rfl, sp', hown', rfl⟩
theorem insert_spec (ρ : Hp) (v : Value) (sp : List Value) (l : List Yq) (hl : l.length ≤ 1000000) (hown : OwnS v l.length (Yy l) sp 2) (i : Nat) (hi : i ≤ l.length) (bv : Nat) (p : Yq) :
  Spec Tryz.prog 129 [v, .int .i64 (i : Nat), .slice (some ⟨bv, 0, none⟩) 1 1] ρ [ZG v (Yy l) sp 92, [(bv, .cells ⟨YG p⟩ 92 (0, 0))]]
  (fun z ρ' L' => ρ' = ρ ∧ ∃ sp', OwnS z (l.length + 1) (Yy (l.take i ++ p :: l.drop i)) sp' 2 ∧ L' = [ZG z (Yy (l.take i ++ p :: l.drop i)) sp' 92]) := by
 obtain ⟨va, vc, rfl, hvc⟩ := hown.slice
 by_cases hin : i = l.length
 ·have hm : Yy l ++ YG p = Yy (l.take i ++ p :: l.drop i) := by rw [hin]; simp [Yy]
  refine Zd Tryz.func129 rfl rfl rfl fun u R => ?_
  simp only [Zo, List.cons_append, List.nil_append]
  repeat' (first | refine zV ?_ | intro _)
  refine ZZ (ys := YG p) (m := 1) rfl rfl hown (hR := by infer_instance) SrcV.lit rfl rfl (by decide) rfl (by omega) (by omega) rfl (fun v' sp' hown' => ?_)
  rw [hm] at hown' ⊢
  repeat' (first | refine zV ?_ | intro _)
  exact qE ⟨rfl, sp', hown', rfl⟩
 ·have hfl := flatP_len l
  have hA := flatN_take WE l i
  have hD := flatN_drop WE l i
  have hAl := flatP_len (l.take i)
  have hDl := flatP_len (l.drop i)
  rw [List.length_take, Nat.min_eq_left hi] at hAl
  rw [List.length_drop] at hDl
  have hsplit : Yy l = Yy (l.take i) ++ Yy (l.drop i) := by
   show (l.map YG).flatten = ((l.take i).map YG).flatten ++ ((l.drop i).map YG).flatten
   rw [← hA, ← hD, List.take_append_drop]
  have hfin : Yy (l.take i ++ p :: l.drop i) = (Yy (l.take i) ++ YG p) ++ Yy (l.drop i) := by simp [Yy]
  have hDone := flatP_one (l.drop i)
  rcases hown.out with ⟨e, _, e2, _⟩ | ⟨b, c, e, e1, e2, e3⟩
  ·have := (Value.slice.inj e).2.1
   omega
  ·cases e
   rw [hfin]
   generalize hAA : Yy (l.take i) = A at *
   generalize hDD : Yy (l.drop i) = D at *
   have hC : ∀ xs sp, ZG (.slice (some ⟨b, 0, none⟩) l.length vc) xs sp 92 = [(b, .cells ⟨xs ++ sp⟩ 92 (0, 0))] := fun _ _ => rfl
   rw [hC, hsplit]
   refine Zd Tryz.func129 rfl rfl rfl fun u R => ?_
   simp only [Zo, List.cons_append, List.nil_append]
   have t1 : ((i : Int) + 1).toNat = i + 1 := by omega
   have hAl2 : A.length = i * 2 := by omega
   have hn1 : ((l.length : Int) + 1 - i) = ((l.length + 1 - i : Nat) : Int) := by omega
   have hni : i + (l.length + 1 - i) = l.length + 1 := by omega
   have hp2 : (YG p).length = 2 := rfl
   have t2 : ((i : Int) + ((1 : Nat) : Int)).toNat = i + 1 := by omega
   have tn2 : ((l.length : Int) + ((1 : Nat) : Int)).toNat = l.length + 1 := by omega
   by_cases hroom : l.length + 1 ≤ vc
   ·have hne : ¬ vc = i + 1 := by omega
    have hne2 : ¬ vc = i := by omega
    have tn1 : ((l.length : Int) + 1).toNat = l.length + 1 := by omega
    obtain ⟨X, Y, hXY, hXl⟩ : ∃ X Y : List Value, A ++ D ++ sp = X ++ Y ∧ X.length = (i + 1) * 2 := ⟨(A ++ D ++ sp).take ((i + 1) * 2), (A ++ D ++ sp).drop ((i + 1) * 2), (List.take_append_drop _ _).symm, by simp; omega⟩
    have hYl : D.length ≤ Y.length := by have := congrArg List.length hXY; simp only [List.length_append] at this; omega
    obtain ⟨X2, hX2, hX2l⟩ : ∃ X2 : List Value, X = A ++ X2 ∧ X2.length = 2 := by
     have h1 : X = (A ++ D ++ sp).take ((i + 1) * 2) := by rw [hXY, List.take_left' hXl]
     refine ⟨(D ++ sp).take 2, ?_, by simp; omega⟩
     rw [h1, List.append_assoc, List.take_append, List.take_of_length_le (by omega), hAl2, show (i + 1) * 2 - i * 2 = 2 by omega]
    have hsrc : ((X ++ Y).drop (i * 2)).take D.length = D := by rw [← hXY, List.append_assoc, List.drop_left' (by omega), List.take_left' rfl]
    have hst1 : stc (X ++ Y) ((i + 1) * 2) D = A ++ (X2 ++ (D ++ Y.drop D.length)) := by
     rw [← hXl, stc_end X Y D hYl, hX2]; simp only [List.append_assoc]
    have hst2 : stc (A ++ (X2 ++ (D ++ Y.drop D.length))) (i * 2) (YG p) = ((A ++ YG p) ++ D) ++ Y.drop D.length := by
     rw [← hAl2, stcN_mid (by rw [hX2l]; rfl)]; simp only [List.append_assoc]
    rw [hXY]
    repeat' (first | refine zV ?_ | intro _)
    simp only [tn1, t1, t2, tn2, if_neg hne, Option.map_some, Yz, Nat.zero_add]
    refine tl_overlaps (sz := 2) (hF := inferInstance) (hF2 := inferInstance) rfl rfl (by have := congrArg List.length hXY; simp only [List.length_append] at this ⊢; show 2 ≠ _; omega) (by intro e; have := congrArg List.length e; simp only [List.length_append, List.length_nil] at this; omega) (fn := Tryz.f167) rfl rfl rfl rfl rfl rfl ?_
    repeat' (first | refine zV ?_ | intro _)
    refine Zu (Zk _ _ ([])) (Zw (hT := tk) (Hp.le_refl _)) ?_
    all_goals (refine Zx 0 ?_; refine Zx 1 ?_; refine Zx 2 ?_; refine rAd 3 ?_; refine rSl 4 ?_; refine Zx 5 ?_; refine Zx 6 ?_; refine rSl 7 ?_)
    all_goals (refine Zj (i := 8) ?_; ((try refine Zh ?_); (first | (simp only [Int.toNat_natCast, t1, t2, tn2, if_neg hne, if_neg hne2, Option.map_some, Yz, Nat.zero_add]; refine tl_copyN (ys := D) rfl rfl (Src.find (n := D.length) hsrc) (by omega) hDone (by simp only [List.length_append]; omega) rfl ?_) | (refine ZF ?_; try intro _)) <;> ((try simp only [kM, kN, kO]); refine Zf ?_; refine Zi ?_)))
    all_goals refine Zv ?_
    rw [hst1]
    repeat' (first | refine zV ?_ | intro _)
    simp only [Int.toNat_natCast, if_neg hne2, Option.map_some, Yz, Nat.zero_add]
    refine tl_copyN (ys := YG p) rfl rfl (Src.find (n := 2) rfl) (by rw [hp2]; omega) rfl (by simp only [List.length_append, hp2, hX2l]; omega) rfl ?_
    rw [hst2]
    repeat' (first | refine zV ?_ | intro _)
    refine qE ⟨rfl, _, ⟨.inr ⟨b, vc, rfl, ?_, ?_, hroom⟩⟩, rfl⟩
    ·simp only [List.length_append, hp2]; omega
    ·have := congrArg List.length hXY
     simp only [List.length_append, List.length_drop, hp2] at this ⊢
     omega
   ·have hne2 : ¬ vc = i := by omega
    repeat' (first | refine zV ?_ | intro _)
    simp only [Int.toNat_natCast]
    rw [show ((l.length : Int) + ((1 : Nat) : Int) - i) = ((l.length + 1 - i : Nat) : Int) by omega]
    refine tl_appZ (i := i) (n := l.length + 1 - i) (cap := vc) (b := b) (olds := A) (z := .agg ⟨[.int .i64 0, .int .u64 0]⟩) rfl rfl (Src.find (n := A.length) (by simp)) hAl2 (by omega) (by decide) rfl (by omega) (by omega) (by omega) rfl (fun b' c' ws hc' hws => ?_)
    rw [hni]
    have hwl : 2 + D.length ≤ ws.length := by omega
    have hst1 : stc (A ++ ws) (i * 2) (YG p) = (A ++ YG p) ++ ws.drop 2 := by rw [← hAl2, stc_end A ws (YG p) (by rw [hp2]; omega)]; rfl
    have hst2 : stc ((A ++ YG p) ++ ws.drop 2) ((i + 1) * 2) D = ((A ++ YG p) ++ D) ++ (ws.drop 2).drop D.length := by
     have : (A ++ YG p).length = (i + 1) * 2 := by rw [List.length_append, hp2]; omega
     rw [← this, stc_end (A ++ YG p) (ws.drop 2) D (by rw [List.length_drop]; omega)]
    have hnc : ¬ c' = i := by omega
    have hnc2 : ¬ c' = i + 1 := by omega
    repeat' (first | refine zV ?_ | intro _)
    simp only [Int.toNat_natCast, if_neg hnc, Option.map_some, Yz, Nat.zero_add]
    refine tl_copyN (ys := YG p) rfl rfl (Src.find (n := 2) rfl) (by rw [hp2]; omega) rfl (by simp; omega) rfl ?_
    rw [hst1]
    repeat' (first | refine zV ?_ | intro _)
    refine Zu (Zk _ _ ([])) (Zw (hT := tk) (Hp.le_refl _)) ?_
    all_goals (refine Zx 0 ?_; refine Zx 1 ?_; refine Zx 2 ?_; refine rAd 3 ?_; refine rSl 4 ?_; refine Zx 5 ?_; refine Zx 6 ?_; refine rSl 7 ?_)
    all_goals (refine Zj (i := 8) ?_; ((try refine Zh ?_); (first | (simp only [Int.toNat_natCast, t1, t2, if_neg hnc2, if_neg hne2, Option.map_some, Yz, Nat.zero_add]; refine tl_copyN (ys := D) rfl rfl (Src.find (n := D.length) (by rw [List.append_assoc, List.drop_left' (by omega), List.take_left' rfl])) (by omega) hDone (by simp; omega) rfl ?_) | (refine ZF ?_; try intro _)) <;> ((try simp only [kM, kN, kO]); refine Zf ?_; refine Zi ?_)))
    all_goals refine Zv ?_
    rw [hst2]
    repeat' (first | refine zV ?_ | intro _)
    refine qE ⟨rfl, _, ⟨.inr ⟨b', c', rfl, ?_, ?_, by omega⟩⟩, rfl⟩
    ·simp only [List.length_append, hp2]; omega
    ·simp only [List.length_append, List.length_drop, hp2]; omega
theorem at_own (ρ : Hp) (v : Value) (sp : List Value) (l : List Yq) (hl : l.length ≤ 1000000) (hown : OwnS v l.length (Yy l) sp 2) (page : Int) :
  Spec Tryz.prog 128 [v, .int .i64 page] ρ [ZG v (Yy l) sp 92] (fun z ρ' L' => ρ' = ρ ∧ ∃ i there, z = .tuple ⟨[.int .i64 (i : Nat), .bool there]⟩ ∧ AtR l page i there ∧ L' = [ZG v (Yy l) sp 92]) := by
 refine (Spec.thaw (C := [ZG v (Yy l) sp 92]) (L := []) (Post := fun z L' => ∃ i there, z = .tuple ⟨[.int .i64 (i : Nat), .bool there]⟩ ∧ AtR l page i there ∧ L' = []) (fun ρ1 hle hf => ?_)).mono ?_
 ·obtain ⟨a, c, rfl, hc, hA⟩ := hown.aIn rfl (fun x _ => WE x) (by simpa using hf)
  exact at_spec ρ1 ⟨a, l.length, c⟩ l ⟨hA, hl, hc⟩ page
 ·rintro z ρ' L' _ ⟨rfl, L2, ⟨i, there, rfl, h1, rfl⟩, rfl⟩
  exact ⟨rfl, i, there, rfl, h1, rfl⟩
def addP (page : Int) (lsn : Nat) : List Yq → List Yq
 | [] => [⟨page, lsn⟩]
 | p :: r => if p.page < page then p :: addP page lsn r else if p.page = page then p :: r else ⟨page, lsn⟩ :: p :: r
def WM (lsn : Nat) : List Im → List Yq → List Yq
 | [], l => l
 | x :: r, l => WM lsn r (addP x.page lsn l)
def XW (r : Rc) (l : List Yq) : List Yq := WM r.lsn r.ims l
def recP (page : Int) (l : List Yq) : Option Yq := l.find? (fun p => decide (p.page = page))
theorem addP_in {page : Int} {lsn : Nat} : ∀ {l : List Yq} {i : Nat} (h : i < l.length), (∀ j (h : j < l.length), j < i → l[j].page < page) → l[i].page = page → addP page lsn l = l
 | p :: r, 0, h, _, he => by simp at he; simp [addP, he]
 | p :: r, i + 1, h, hlt, he => by
  have h0 := hlt 0 (by simp) (by omega)
  simp only [List.getElem_cons_zero] at h0
  rw [addP, if_pos h0, addP_in (i := i) (by simpa using h) (fun j hj hji => by have := hlt (j + 1) (by simpa using hj) (by omega); simpa using this) (by simpa using he)]
theorem addP_out {page : Int} {lsn : Nat} : ∀ {l : List Yq} {i : Nat} (h : i ≤ l.length), (∀ j (h : j < l.length), j < i → l[j].page < page) → (∀ j (h : j < l.length), i ≤ j → page < l[j].page) → addP page lsn l = l.take i ++ ⟨page, lsn⟩ :: l.drop i
 | [], 0, _, _, _ => rfl
 | p :: r, 0, _, _, hi => by
  have h0 := hi 0 (by simp) (by omega)
  simp only [List.getElem_cons_zero] at h0
  rw [addP, if_neg (by omega), if_neg (by omega)]; rfl
 | p :: r, i + 1, h, hlt, hi => by
  have h0 := hlt 0 (by simp) (by omega)
  simp only [List.getElem_cons_zero] at h0
  rw [addP, if_pos h0, addP_out (i := i) (by simpa using h) (fun j hj hji => by have := hlt (j + 1) (by simpa using hj) (by omega); simpa using this) (fun j hj hji => by have := hi (j + 1) (by simpa using hj) (by omega); simpa using this)]
  rfl
theorem addP_tbl {page : Int} {lsn : Nat} (h64 : page < 64) (h1 : 1 ≤ lsn) (h2 : lsn ≤ 1099511627776) : ∀ {l : List Yq} {last : Int}, last < page → tblB last l = true → tblB last (addP page lsn l) = true
 | [], last, hp, _ => by simp [addP, tblB]; omega
 | p :: r, last, hp, h => by
  rw [tblB, Bool.and_eq_true, decide_eq_true_eq] at h
  rw [addP]
  split
  ·rw [tblB, Bool.and_eq_true, decide_eq_true_eq]
   exact ⟨h.1, addP_tbl h64 h1 h2 (by omega) h.2⟩
  ·split
   ·rw [tblB, Bool.and_eq_true, decide_eq_true_eq]; exact h
   ·rw [tblB, Bool.and_eq_true, decide_eq_true_eq]
    refine ⟨by dsimp only; omega, ?_⟩
    rw [tblB, Bool.and_eq_true, decide_eq_true_eq]
    exact ⟨by dsimp only; omega, h.2⟩
theorem addP_len {page : Int} {lsn : Nat} : ∀ {l : List Yq}, (addP page lsn l).length ≤ l.length + 1
 | [] => by simp [addP]
 | p :: r => by
  rw [addP]
  have := addP_len (page := page) (lsn := lsn) (l := r)
  split
  ·simp only [List.length_cons]; omega
  ·split <;> simp
theorem AtR.add {l : List Yq} {page : Int} {lsn i : Nat} {there : Bool} (h : AtR l page i there) (ht : Xs l = true) : addP page lsn l = if there then l else l.take i ++ ⟨page, lsn⟩ :: l.drop i := by
 cases there with
 | true =>
  obtain ⟨h1, h2⟩ := h.hit rfl
  rw [if_pos rfl]
  exact addP_in h1 (h.lo ht) h2
 | false =>
  rw [if_neg (by simp)]
  exact addP_out h.le (h.lo ht) (h.hi ht rfl)
abbrev pC (pb : Nat) (v : Value) : List (Nat × Obj) := [(pb, .cells ⟨[v]⟩ 32 (0, 0))]
theorem with_spec (ρ : Hp) (s : SV) (l : List Yq) (h : AS ρ 2 YG s l) (F : Nat) [hF : Ya Tryz.prog F] (cs : List Value) (X : SH) (e : Int) (l' : List Yq) (hl' : l'.length ≤ 1000000)
  (hdo : Xs l = true → ∀ pb v sp, OwnS v l.length (Yy l) sp 2 → Spec Tryz.prog F (.pointer (some ⟨pb, 0, none⟩) :: cs) ρ ([pC pb v, ZG v (Yy l) sp 92] ++ X)
   (fun z ρ' L' => z = .int .i64 e ∧ ρ' = ρ ∧ ∃ v' sp', OwnS v' l'.length (Yy l') sp' 2 ∧ L' = [pC pb v', ZG v' (Yy l') sp' 92] ++ X)) :
  Spec Tryz.prog 126 [.slice s.a s.n s.c, .func (.func F) ⟨[]⟩ ⟨cs⟩] ρ X
   (fun z ρ' L' => ρ.le ρ' ∧ ∃ s' : SV, z = .tuple ⟨[.slice s'.a s'.n s'.c, .int .i64 (if Xs l then e else 320)]⟩ ∧ AS ρ' 2 YG s' (if Xs l = true ∧ e = 0 then l' else []) ∧ L' = X) := by
 have hl := h.at'.len
 have hn := h.big
 have hck := ckcheck_spec ρ s l h
 have hcl := clonep_spec ρ s l h
 refine Zd Tryz.func126 rfl rfl rfl fun u R => ?_
 simp only [Zo, List.cons_append, List.nil_append]
 cases hok : Xs l
 ·rw [hok] at hck
  simp only [Bool.false_eq_true, if_false, false_and] at hck ⊢
  repeat' (first | (refine Zc (.func 107) ?_; refine qC rfl rfl (hck) ?_; rintro v ρ' L' hle ⟨rfl, rfl, rfl⟩ <;> (try simp only [kM, kN, kO])) | refine zV ?_ | intro _)
  exact qE (L' := X) ⟨Hp.le_refl _, Yw, rfl, AS.nil, rfl⟩
 ·rw [hok] at hck
  simp only [if_true, true_and] at hck ⊢
  have hdo1 := hdo hok
  repeat' (first | (refine Zc (.func 107) ?_; refine qC rfl rfl (hck) ?_; rintro v ρ' L' hle ⟨rfl, rfl, rfl⟩ <;> (try simp only [kM, kN, kO])) | (refine Zc (.func 117) ?_; refine qC rfl rfl (hcl) ?_; rintro v ρ' L' hle ⟨rfl, sp, hown, rfl⟩ <;> (try simp only [kM, kN, kO])) | refine zV ?_ | intro _)
  obtain ⟨va, vc, rfl, hvc⟩ := hown.slice
  rename_i pb
  by_cases he : e = 0
  ·subst he
   simp only [if_true]
   repeat' (first | (refine Zc (.tmp 16) ?_; refine qC rfl rfl (hdo1 pb _ sp hown) ?_; rintro v ρ' L' hle ⟨rfl, rfl, v', sp', hown', rfl⟩ <;> (try simp only [kM, kN, kO])) | refine zV ?_ | intro _)
   refine ZY (ZG v' (Yy l') sp' 92) (fun ρ3 hle3 hfz => ?_)
   obtain ⟨sa, sc, e1, hsc, hA2⟩ := hown'.aIn rfl (fun x _ => WE x) hfz
   subst e1
   exact qE (L' := X) ⟨hle3, ⟨sa, l'.length, sc⟩, rfl, ⟨hA2, hl', hsc⟩, rfl⟩
  ·simp only [he, if_false]
   repeat' (first | (refine Zc (.tmp 16) ?_; refine qC rfl rfl (hdo1 pb _ sp hown) ?_; rintro v ρ' L' hle ⟨rfl, rfl, v', sp', hown', rfl⟩ <;> (try simp only [kM, kN, kO])) | refine zV ?_ | intro _)
   exact qE (L' := X) ⟨Hp.le_refl _, Yw, rfl, AS.nil, rfl⟩
abbrev recC (rb : Nat) (v : RV) (r : Rc) : List (Nat × Obj) := [(rb, .cells ⟨Yx v r⟩ 34 (0, 0))]
theorem touchI_len {lsn : Nat} : ∀ {xs : List Im} {l : List Yq}, (WM lsn xs l).length ≤ l.length + xs.length
 | [], l => by simp [WM]
 | x :: r, l => by
  rw [WM]
  have h1 := touchI_len (lsn := lsn) (xs := r) (l := addP x.page lsn l)
  have h2 := addP_len (page := x.page) (lsn := lsn) (l := l)
  simp only [List.length_cons]; omega
theorem touch1_spec (ρ : Hp) (l : List Yq) (hl : l.length ≤ 1000) (ht : Xs l = true) (v : RV) (r : Rc) (h : RcIn ρ v r) (hi : v.i.n ≤ 1000) (pb rb : Nat) (vv : Value) (sp : List Value) (hown : OwnS vv l.length (Yy l) sp 2) :
  Spec Tryz.prog 127 [.pointer (some ⟨pb, 0, none⟩), .pointer (some ⟨rb, 0, none⟩)] ρ ([pC pb vv, ZG vv (Yy l) sp 92] ++ [recC rb v r])
   (fun z ρ' L' => z = .int .i64 (if ZU r then 0 else 220) ∧ ρ' = ρ ∧ ∃ v' sp', OwnS v' (if ZU r then XW r l else l).length (Yy (if ZU r then XW r l else l)) sp' 2 ∧ L' = [pC pb v', ZG v' (Yy (if ZU r then XW r l else l)) sp' 92] ++ [recC rb v r]) := by
 have hck := WA ρ v r h
 have hin := h.i.at'.len
 have hA := h.i.at'
 refine Zd Tryz.func127 rfl rfl rfl fun u R => ?_
 simp only [Zo, List.cons_append, List.nil_append]
 cases hok : ZU r
 ·rw [hok] at hck
  simp only [Bool.false_eq_true, if_false] at hck ⊢
  repeat' (first | (refine Zc (.func 52) ?_; refine qC rfl rfl (hck) ?_; rintro v ρ' L' hle ⟨rfl, rfl, rfl⟩ <;> (try simp only [kM, kN, kO])) | refine zV ?_ | intro _)
  exact qE (L' := [pC pb vv, ZG vv (Yy l) sp 92, recC rb v r]) ⟨rfl, rfl, vv, sp, hown, rfl⟩
 ·rw [hok] at hck
  simp only [if_true] at hck ⊢
  have hfacts : (1 ≤ r.lsn ∧ r.lsn ≤ 1099511627776) ∧ (r.ims ≠ [] → ∀ x ∈ r.ims, Wv x.page = true) := by
   unfold ZU at hok
   simp only [Bool.and_eq_true, decide_eq_true_eq] at hok
   obtain ⟨_, hh, ha, hb⟩ := hok
   unfold headOk at hh
   rw [decide_eq_true_eq] at hh
   refine ⟨⟨hh.1, hh.2.1⟩, fun hne x hx => ?_⟩
   have him : ∃ b, imsOk b r.ims = true := by
    unfold bareOk at hb
    rw [decide_eq_true_eq] at hb
    rcases hb.2.1 with h0 | h2 | h5
    ·exact absurd h0 hne
    ·unfold askOk at ha; rw [if_pos h2, Bool.and_eq_true] at ha; exact ⟨true, ha.2⟩
    ·unfold askOk at ha
     rw [if_neg (by omega), if_neg (by omega), if_neg (by omega), if_pos h5, Bool.and_eq_true] at ha; exact ⟨false, ha.2⟩
   obtain ⟨b, him⟩ := him
   unfold imsOk upB at him
   rw [Bool.and_eq_true] at him
   obtain ⟨j, hj, rfl⟩ := List.mem_iff_getElem.1 hx
   have := ((XP him.2 (Nat.le_refl _)).2 j hj hj).1
   unfold imOk at this
   rw [Bool.and_eq_true] at this
   exact this.1
  obtain ⟨⟨hl1, hl2⟩, hpg⟩ := hfacts
  unfold XW
  generalize hQ : WM r.lsn r.ims l = Q
  repeat' (first | (refine Zc (.func 52) ?_; refine qC rfl rfl (hck) ?_; rintro v ρ' L' hle ⟨rfl, rfl, rfl⟩ <;> (try simp only [kM, kN, kO])) | refine zV ?_ | intro _)
  refine Zq [(0, _), (1, _), (3, _), (15, _), (16, _)] (fun (ζ : (Nat) × (Value) × (List Value) × (List Yq)) => [(17, .int .i64 ζ.1)]) (fun (ζ : (Nat) × (Value) × (List Value) × (List Yq)) => ρ') (fun (ζ : (Nat) × (Value) × (List Value) × (List Yq)) => [pC pb ζ.2.1, ZG ζ.2.1 (Yy ζ.2.2.2) ζ.2.2.1 92, recC rb v r]) (fun (ζ : (Nat) × (Value) × (List Value) × (List Yq)) => ζ.1 ≤ v.i.n ∧ OwnS ζ.2.1 ζ.2.2.2.length (Yy ζ.2.2.2) ζ.2.2.1 2 ∧ Xs ζ.2.2.2 = true ∧ ζ.2.2.2.length ≤ 1000 + ζ.1 ∧ WM r.lsn (r.ims.drop ζ.1) ζ.2.2.2 = Q) (fun (ζ : (Nat) × (Value) × (List Value) × (List Yq)) => v.i.n - ζ.1) ((0, vv, sp, l)) (⟨Nat.zero_le _, hown, ht, by omega, hQ⟩) Ze Ze rfl tk ?_
  rintro ⟨k, v1, sp1, l1⟩ hI
  try simp only [List.cons_append, List.nil_append, List.append_assoc, List.append_eq] at hI ⊢
  try dsimp only at hI ⊢
  obtain ⟨hk, hown1, ht1, hlen1, hq1⟩ := hI
  obtain ⟨va, vc, rfl, hvc⟩ := hown1.slice
  by_cases hlt : k < v.i.n
  ·obtain ⟨b, off, C, T, fr, e1, hb, hfit, hc⟩ := hA.get (show k < r.ims.length by omega)
   have hmem := List.getElem_mem (show k < r.ims.length by omega)
   rw [List.drop_eq_getElem_cons (show k < r.ims.length by omega), WM] at hq1
   generalize r.ims[k]'(by omega) = x at *
   have hpx := hpg (List.ne_nil_of_mem hmem) x hmem
   unfold Wv at hpx
   rw [decide_eq_true_eq] at hpx
   have hat := at_own ρ' (.slice va l1.length vc) sp1 l1 (by omega) hown1 x.page
   rw [e1]
   repeat' (first | refine zV ?_ | intro _)
   rename_i xb
   refine Zu (Zk _ _ ([pC pb (.slice va l1.length vc), [(xb, .cells ⟨imV x⟩ 100 (0, 0))]])) (Zw (hT := tk) (Hp.le_refl _)) ?_
   all_goals (refine Zx 0 ?_; refine rNc 1 ?_; refine ZQ 2 ?_; refine ZN 3 ?_; refine ZQ 4 ?_)
   all_goals (refine Zj (i := 5) ?_; ((try refine Zh ?_); (first | (refine Zc (.func 128) ?_; refine qC rfl rfl (hat) ?_; rintro v ρ' L' hle ⟨rfl, i, there, rfl, hAt, rfl⟩ <;> (try simp only [kM, kN, kO])) | (refine ZF ?_; try intro _)) <;> ((try simp only [kM, kN, kO]); refine Zf ?_; refine Zi ?_)))
   all_goals (refine Zz ?_; refine Zx 6 ?_; refine rEx 7 ?_; refine rEx 8 ?_; refine rAs 9 ?_; refine rAs 10 ?_; refine Zv ?_)
   have hadd := hAt.add (lsn := r.lsn) ht1
   have htb := addP_tbl (page := x.page) (lsn := r.lsn) hpx.2 hl1 hl2 (show (-1 : Int) < x.page by omega) ht1
   have hal := addP_len (page := x.page) (lsn := r.lsn) (l := l1)
   cases there
   ·rw [if_neg (by simp)] at hadd
    repeat' (first | refine zV ?_ | intro _)
    refine tc_phase 13 (Zk _ _ ([pC pb (.slice va l1.length vc), [(xb, .cells ⟨imV x⟩ 100 (0, 0))], recC rb v r])) (by decide +kernel) (Zw (hT := tk) (Hp.le_refl _)) ?_
    simp only [List.take_succ_cons, List.take_zero]
    all_goals (refine Zx 0 ?_; refine Zx 1 ?_; refine rNc 2 ?_; refine ZQ 3 ?_; refine Zx 4 ?_; refine ZN 5 ?_; refine ZQ 6 ?_; refine ZN 7 ?_; refine ZQ 8 ?_)
    all_goals refine rBu 9 ?_ (y := fun _ _ => y_buildN rfl)
    all_goals (refine Zj (i := 10) ?_; ((try refine Zh ?_); (first | (refine ZH (css := [YG ⟨x.page, r.lsn⟩]) (sz := 2) rfl rfl rfl rfl (by simp) (by simp) rfl (fun bs => ?_); simp only [List.flatten_cons, List.flatten_nil, List.append_nil]) | (refine ZF ?_; try intro _)) <;> ((try simp only [kM, kN, kO]); refine Zf ?_; refine Zi ?_)))
    all_goals (refine Zj (i := 11) ?_; ((try refine Zh ?_); (first | (refine Zc (.func 129) ?_; refine qC rfl rfl (insert_spec _ _ sp1 l1 (by omega) hown1 i hAt.le _ ⟨x.page, r.lsn⟩) ?_; rintro v ρ' L' hle ⟨rfl, sp2, hown2, rfl⟩ <;> (try simp only [kM, kN, kO])) | (obtain ⟨va2, vc2, rfl, hvc2⟩ := hown2.slice; refine ZF ?_) | (refine ZF ?_; try intro _)) <;> ((try simp only [kM, kN, kO]); refine Zf ?_; refine Zi ?_)))
    all_goals (refine rNc 12 ?_; refine Zv ?_)
    all_goals refine te_phase (fuel := 1) (m := [true, true, true, true, true, true, true, true, true, true, true, true, true, false]) (Zk _ _ ([])) rfl rfl (Zw (hT := tk) (Hp.le_refl _)) ?_
    all_goals (refine Zj (i := 13) ?_; ((try refine Zh ?_); (first | (obtain ⟨va2, vc2, rfl, hvc2⟩ := hown2.slice; refine ZF ?_) | (refine ZF ?_; try intro _)) <;> ((try simp only [kM, kN, kO]); refine Zf ?_; refine Zi ?_)))
    all_goals refine Zv ?_
    all_goals (repeat' (first | refine zV ?_ | intro _))
    rw [← hadd] at hown2 ⊢
    have hln : l1.length + 1 = (addP x.page r.lsn l1).length := by rw [hadd]; have := hAt.le; simp; omega
    rw [hln] at hown2 ⊢
    rw [← e1]
    refine Zg (k + 1, _, sp2, addP x.page r.lsn l1) (⟨hlt, hown2, htb, by dsimp only; omega, hq1⟩) Ze Ze rfl tk inferInstance (by first | omega | (dsimp only; omega))
   ·rw [if_pos rfl] at hadd
    rw [hadd] at hq1
    repeat' (first | refine zV ?_ | intro _)
    rw [← e1]
    refine Zg (k + 1, _, sp1, l1) (⟨hlt, hown1, ht1, by dsimp only; omega, hq1⟩) Ze Ze rfl tk inferInstance (by first | omega | (dsimp only; omega))
  ·have hk2 : k = r.ims.length := by omega
   rw [hk2, List.drop_length, WM] at hq1
   subst hq1
   repeat' (first | refine zV ?_ | intro _)
   exact qE (L' := [pC pb (.slice va l1.length vc), ZG (.slice va l1.length vc) (Yy l1) sp1 92, recC rb v r]) ⟨rfl, rfl, _, sp1, hown1, rfl⟩
def touchE (l : List Yq) (r : Rc) : Int := if Xs l then (if ZU r then 0 else 220) else 320
def touchR (l : List Yq) (r : Rc) : List Yq := if Xs l = true ∧ (if ZU r then (0 : Int) else 220) = 0 then (if ZU r then XW r l else l) else []
theorem touch_spec (ρ : Hp) (s : SV) (l : List Yq) (h : AS ρ 2 YG s l) (hb : l.length ≤ 1000) (v : RV) (r : Rc) (hr : RcIn ρ v r) (hi : v.i.n ≤ 1000) :
  Spec Tryz.prog 72 [.slice s.a s.n s.c, .agg ⟨Yx v r⟩] ρ [] (fun z ρ' L' => ρ.le ρ' ∧ ∃ s' : SV, z = .tuple ⟨[.slice s'.a s'.n s'.c, .int .i64 (touchE l r)]⟩ ∧ AS ρ' 2 YG s' (touchR l r) ∧ L' = []) := by
 have hin := hr.i.at'.len
 have hlen : (if ZU r then XW r l else l).length ≤ 1000000 := by
  have := touchI_len (lsn := r.lsn) (xs := r.ims) (l := l)
  split
  ·unfold XW; omega
  ·omega
 have hw := fun rb => with_spec ρ s l h 127 [.pointer (some ⟨rb, 0, none⟩)] [recC rb v r] (if ZU r then 0 else 220) (if ZU r then XW r l else l) hlen (fun ht pb vv sp hown => touch1_spec ρ l hb ht v r hr hi pb rb vv sp hown)
 refine Zd Tryz.func72 rfl rfl rfl fun u R => ?_
 simp only [Zo, List.cons_append, List.nil_append]
 repeat' (first | (refine Zc (.func 126) ?_; refine qC rfl rfl (hw _) ?_; rintro v ρ' L' hle ⟨hle1, s', rfl, hs', rfl⟩ <;> (try simp only [kM, kN, kO])) | refine zV ?_ | intro _)
 exact qE (L' := []) ⟨hle1, s', rfl, hs', rfl⟩
def contO (o : Option Im) : List Value := match o with | some x => contV x.a.kind x.av | none => contV 0 ⟨none, 0, 0, none, 0, 0⟩
def zRc : Rc := ⟨0, 0, 0, 0, 0, [], [], 0, [], []⟩
def zRV : RV := ⟨Yw, Yw, Yw, Yw⟩
theorem RcIn.zero {ρ : Hp} : RcIn ρ zRV zRc := ⟨AS.nil, by simp [zRc], AS.nil, AS.nil, AS.nil, by simp [zRc]⟩
end Go.Proofs.E
