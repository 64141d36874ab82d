/- Laws of analysis. Part 11 of 37. -/
import Derived.Test.YtkbiahafeoillaaGreatB10
namespace Go.Proofs.E
open Go
set_option linter.unusedVariables false
set_option linter.unusedSimpArgs false
set_option linter.unusedSectionVars false
set_option maxRecDepth 4000
set_option maxHeartbeats 1000000
attribute [local irreducible] Yl TL TC TE Spec YY R1 Hp.le EnvLe TS TR YS Zq
def XV (k : Kid) : List UInt8 := keyB k.t k.id ++ [tB k.page]
def cntB (c : Cont) : List UInt8 := if c.kind = 0 then [] else [UInt8.ofNat (c.rows.length + c.kids.length)]
def XO (c : Cont) : List UInt8 := tB c.kind :: cntB c ++ (c.rows.flatMap YA ++ c.kids.flatMap XV)
theorem XQ {α : Type} {most : Nat} {right : Nat → α → Bool} {lt : α → α → Bool} {l : List α} : ∀ {k : Nat}, ZW most right lt l k = true → k ≤ l.length → l.length ≤ most ∧ ∀ i (h : i < l.length), i < k → right i l[i] = true ∧ (i = 0 ∨ lt (l[i - 1]'(by omega)) l[i] = true)
 | 0, h, _ => ⟨of_decide_eq_true h, fun i _ hi => by omega⟩
 | k + 1, h, hk => by
  rw [Xt (show k < l.length by omega), Bool.and_eq_true, Bool.and_eq_true] at h
  obtain ⟨h1, h2, h3⟩ := h
  obtain ⟨g1, g2⟩ := XQ h1 (by omega)
  refine ⟨g1, fun i hi hik => ?_⟩
  by_cases e : i < k
  ·exact g2 i hi e
  ·have : i = k := by omega
   subst this
   refine ⟨h2, ?_⟩
   simpa using h3
structure ContOk (c : Cont) : Prop where
 kind : c.kind = 0 ∧ c.rows = [] ∧ c.kids = [] ∨ c.kind = 1 ∧ c.kids = [] ∨ c.kind = 2 ∧ c.rows = [] ∧ 1 < c.kids.length
 rl : c.rows.length ≤ 4
 kl : c.kids.length ≤ 4
 row : ∀ r ∈ c.rows, XN r = true
 kid : ∀ k ∈ c.kids, (0 ≤ k.t ∧ k.t < 3) ∧ 0 < k.page ∧ k.page < 64
theorem contOk_facts {c : Cont} (h : YW c = true) : ContOk c := by
 obtain ⟨kind, rows, kids⟩ := c
 unfold YW at h
 dsimp only at h
 split at h
 ·rename_i hk
  have hz := of_decide_eq_true h
  have h1 : rows = [] := List.eq_nil_of_length_eq_zero (by omega)
  have h2 : kids = [] := List.eq_nil_of_length_eq_zero (by omega)
  subst h1; subst h2
  exact ⟨.inl ⟨hk, rfl, rfl⟩, by simp, by simp, by simp, by simp⟩
 ·split at h
  ·rename_i hk
   rw [Bool.and_eq_true] at h
   have h2 : kids = [] := List.eq_nil_of_length_eq_zero (of_decide_eq_true h.1)
   subst h2
   obtain ⟨g1, g2⟩ := XQ h.2 (Nat.le_refl _)
   refine ⟨.inr (.inl ⟨hk, rfl⟩), g1, by simp, fun r hr => ?_, by simp⟩
   obtain ⟨i, hi, rfl⟩ := List.mem_iff_getElem.1 hr
   exact (g2 i hi hi).1
  ·split at h
   ·rename_i hk
    rw [Bool.and_eq_true, Bool.and_eq_true] at h
    have h1 : rows = [] := List.eq_nil_of_length_eq_zero (of_decide_eq_true h.1)
    subst h1
    obtain ⟨g1, g2⟩ := XQ h.2.2 (Nat.le_refl _)
    refine ⟨.inr (.inr ⟨hk, rfl, of_decide_eq_true h.2.1⟩), by simp, g1, by simp, fun k hk => ?_⟩
    obtain ⟨i, hi, rfl⟩ := List.mem_iff_getElem.1 hk
    have := of_decide_eq_true (g2 i hi hi).1
    exact ⟨this.2.2.2.1, this.2.1, this.2.2.1⟩
   ·cases h
theorem rowB_len {r : Row} (h : XN r = true) : (YA r).length = 12 + r.note.length := by simp [YA, keyB, ZL]; omega
theorem rowB_le {r : Row} (h : XN r = true) : (YA r).length ≤ 20 := by rw [rowB_len h]; have := (rowOk_iff h).2.2; omega
theorem kidB_len (k : Kid) : (XV k).length = 4 := by simp [XV, keyB, ZL]
theorem YB {α : Type} (f : α → List UInt8) (m : Nat) : ∀ (l : List α), (∀ x ∈ l, (f x).length ≤ m) → (l.flatMap f).length ≤ l.length * m
 | [], _ => by simp
 | x :: r, h => by
  have h1 := h x (by simp)
  have ih := YB f m r (fun y hy => h y (by simp [hy]))
  simp only [List.flatMap_cons, List.length_append, List.length_cons, Nat.add_mul]; omega
theorem Xs {α : Type} (f : α → List UInt8) (l : List α) (k : Nat) (h : k < l.length) : (l.take (k + 1)).flatMap f = (l.take k).flatMap f ++ f l[k] := by
 rw [List.take_succ_eq_append_getElem h, List.flatMap_append]; simp
theorem contE_spec (ρ : Hp) (w : CV) (c : Cont) (h : CIn ρ w c.rows c.kids) (hir : ∀ r ∈ c.rows, r.id < 65536) (hik : ∀ k ∈ c.kids, k.id < 65536) :
  Spec Tryz.prog 221 [.agg ⟨contV c.kind w⟩] ρ [] (fun v ρ' L' => ρ.le ρ' ∧ ∃ a n c', v = .tuple ⟨[.slice a n c', .int .i64 (if YW c then 0 else 160)]⟩ ∧ n ≤ c' ∧ SIn ρ' u8c a n (if YW c then XO c else []) ∧ L' = []) := by
 have hck := fun ρ h => check_spec ρ w c h
 refine Zg Tryz.func221 rfl rfl rfl fun u R => ?_
 simp only [Zx, List.cons_append, List.nil_append]
 cases hok : YW c
 ·simp only [hok, Bool.false_eq_true, if_false] at hck ⊢
  repeat' (first | (refine Ze (.func 172) ?_; refine qC rfl rfl (hck _ h) ?_; rintro v ρ' L' hle ⟨rfl, rfl, rfl⟩ <;> (try simp only [kM, kN, kO])) | (refine Zh ?_; first | (refine Zf ?_; refine qQ ?_) | refine Zm ?_) | refine Zb ?_ | (refine Zi ?_; refine Zr ?_) | (refine Zj ?_; refine Zs ?_) | intro _)
  exact qE ⟨Hp.le_refl _, none, 0, 0, rfl, Nat.le_refl _, SIn.nil, rfl⟩
 ·simp only [hok, if_true] at hck ⊢
  obtain ⟨hkind, hrl, hkl, hrow, hkid⟩ := contOk_facts hok
  have hk03 : 0 ≤ c.kind ∧ c.kind < 3 := by omega
  obtain ⟨kind, rows, kids⟩ := c
  obtain ⟨ra, rn, rc, ka, kn, kc⟩ := w
  obtain ⟨hr, hk, hrb, hkb, hrc, hkc⟩ := h
  dsimp only at hrc hkc hr hk hrb hkb hrow hkid hrl hkl hk03 hir hik ⊢
  have hrn := hr.len
  have hkn := hk.len
  have hcnt := lenB (n := rn + kn) (by omega)
  have hkB := tB_eq (t := kind) (by omega) (by omega)
  dsimp only [contV] at hck ⊢
  by_cases hk0 : kind = 0
  ·obtain ⟨B0, hB0⟩ : ∃ B0, tB kind :: cntB ⟨kind, rows, kids⟩ = B0 := ⟨_, rfl⟩
   have hX : B0 = [tB kind] := by rw [← hB0]; simp [cntB, hk0]
   have hBl : B0.length ≤ 2 := by rw [hX]; simp
   repeat' (first | (refine Ze (.func 172) ?_; refine qC rfl rfl (hck _ ⟨hr, hk, hrb, hkb, hrc, hkc⟩) ?_; rintro v ρ' L' hle ⟨rfl, rfl, rfl⟩ <;> (try simp only [kM, kN, kO])) | (refine ZF rfl rfl rfl rfl (by simp) rfl rfl (fun _ => ?_); simp only [hkB]) | (refine Zh ?_; first | (refine Zf ?_; refine qQ ?_) | refine Zm ?_) | refine Zb ?_ | (refine Zi ?_; refine Zr ?_) | (refine Zj ?_; refine Zs ?_) | intro _)
   rename_i b1 b2
   rw [show [u8c (tB kind)] = B0.map u8c by rw [hX]; rfl, own_chunk b2 1 1]
   have hown0 : OwnS (.slice (some ⟨b2, 0, none⟩) 1 1) B0.length (B0.map u8c) [] 1 := ⟨.inr ⟨b2, 1, by rw [hX]; rfl, by simp, by simp [hX], by simp [hX]⟩⟩
   generalize Value.slice (some ⟨b2, 0, none⟩) 1 1 = v0 at *
   rw [show B0.map u8c = (B0 ++ (rows.take 0).flatMap YA).map u8c by simp]
   refine ZC [(1, _), (2, _), (3, _), (34, _), (35, _)] (fun (ζ : (Nat) × (Hp) × (Value) × (List Value)) => [(36, .int .i64 ζ.1), (5, ζ.2.2.1)]) (fun (ζ : (Nat) × (Hp) × (Value) × (List Value)) => ζ.2.1) (fun (ζ : (Nat) × (Hp) × (Value) × (List Value)) => [ZN ζ.2.2.1 ((B0 ++ (rows.take ζ.1).flatMap YA).map u8c) ζ.2.2.2 5, [(b1, .cells ⟨[.int .i64 kind, .slice ra rn rc, .slice ka kn kc]⟩ 98 (0, 0))]]) (fun (ζ : (Nat) × (Hp) × (Value) × (List Value)) => ζ.1 ≤ rn ∧ ρ'.le ζ.2.1 ∧ OwnS ζ.2.2.1 (B0 ++ (rows.take ζ.1).flatMap YA).length ((B0 ++ (rows.take ζ.1).flatMap YA).map u8c) ζ.2.2.2 1) (fun (ζ : (Nat) × (Hp) × (Value) × (List Value)) => rn - ζ.1) ((0, ρ', v0, [])) (⟨Nat.zero_le _, Hp.le_refl _, by simpa using hown0⟩) Zl Zl rfl tk ?_
   rintro ⟨k, ρ1, v, sp⟩ hI
   try simp only [List.cons_append, List.nil_append, List.append_assoc, List.append_eq] at hI ⊢
   try dsimp only at hI ⊢
   obtain ⟨hkn0, hle1, hown⟩ := hI
   by_cases hlt : k < rn
   ·obtain ⟨b, off, C, T, fr, rfl, hb, hfit, hc⟩ := (hr.mono hle1).get (show k < rows.length by omega)
    have hmem : rows[k]'(by omega) ∈ rows := List.getElem_mem _
    have hro := hrow _ hmem
    have hid := hir _ hmem
    have hts := Xs YA rows k (by omega)
    have hfl := YB YA 20 (rows.take k) (fun x hx => rowB_le (hrow x (List.mem_of_mem_take hx)))
    have htl : (rows.take k).length ≤ 4 := by simp; omega
    have hXl : (B0 ++ (rows.take k).flatMap YA).length ≤ 100 := by simp only [List.length_append]; omega
    have hll : (B0 ++ (rows.take k).flatMap YA).length + (YA (rows[k]'(by omega))).length = (B0 ++ (rows.take (k + 1)).flatMap YA).length := by rw [hts]; simp; omega
    have hmm : B0 ++ (rows.take k).flatMap YA ++ YA (rows[k]'(by omega)) = B0 ++ (rows.take (k + 1)).flatMap YA := by rw [hts]; simp
    generalize rows[k]'(by omega) = x at *
    repeat' (first | (refine Ze (.func 222) ?_; refine qC rfl rfl (claid_spec _ v _ _ sp hown (by omega) x hro hid) ?_; rintro v2 ρ2 L2 hle0 ⟨hle2, sp2, hown2, rfl⟩; simp only [List.cons_append, List.nil_append, hmm]; rw [hmm, hll] at hown2) | (refine Zh ?_; first | (refine Zf ?_; refine qQ ?_) | refine Zm ?_) | refine Zb ?_ | (refine Zi ?_; refine Zr ?_) | (refine Zj ?_; refine Zs ?_) | intro _)
    refine Zp (k + 1, _, v2, sp2) (⟨hlt, Hp.le_trans hle1 hle2, hown2⟩) Zl Zl rfl tk inferInstance (by first | omega | (dsimp only; omega))
   ·have hk2 : k = rn := by omega
    subst hk2
    rw [List.take_of_length_le (by omega)] at hown ⊢
    repeat' (first | (refine Zh ?_; first | (refine Zf ?_; refine qQ ?_) | refine Zm ?_) | refine Zb ?_ | (refine Zi ?_; refine Zr ?_) | (refine Zj ?_; refine Zs ?_) | intro _)
    rw [show (B0 ++ rows.flatMap YA).map u8c = (B0 ++ (rows.flatMap YA ++ (kids.take 0).flatMap XV)).map u8c by simp]
    refine ZC [(2, _), (3, _), (45, _), (46, _)] (fun (ζ : (Nat) × (Hp) × (Value) × (List Value)) => [(47, .int .i64 ζ.1), (5, ζ.2.2.1)]) (fun (ζ : (Nat) × (Hp) × (Value) × (List Value)) => ζ.2.1) (fun (ζ : (Nat) × (Hp) × (Value) × (List Value)) => [ZN ζ.2.2.1 ((B0 ++ (rows.flatMap YA ++ (kids.take ζ.1).flatMap XV)).map u8c) ζ.2.2.2 5]) (fun (ζ : (Nat) × (Hp) × (Value) × (List Value)) => ζ.1 ≤ kn ∧ ρ1.le ζ.2.1 ∧ OwnS ζ.2.2.1 (B0 ++ (rows.flatMap YA ++ (kids.take ζ.1).flatMap XV)).length ((B0 ++ (rows.flatMap YA ++ (kids.take ζ.1).flatMap XV)).map u8c) ζ.2.2.2 1) (fun (ζ : (Nat) × (Hp) × (Value) × (List Value)) => kn - ζ.1) ((0, ρ1, v, sp)) (⟨Nat.zero_le _, Hp.le_refl _, by simpa using hown⟩) Zl Zl rfl tk ?_
    rintro ⟨j, ρ2, v, sp⟩ hI
    try simp only [List.cons_append, List.nil_append, List.append_assoc, List.append_eq] at hI ⊢
    try dsimp only at hI ⊢
    have hfl := YB YA 20 rows (fun x hx => rowB_le (hrow x hx))
    obtain ⟨hj0, hle3, hown3⟩ := hI
    by_cases hlj : j < kn
    ·obtain ⟨b, off, C, T, fr, rfl, hb, hfit, hc⟩ := (hk.mono (Hp.le_trans hle1 hle3)).get (show j < kids.length by omega)
     have hmem : kids[j]'(by omega) ∈ kids := List.getElem_mem _
     have hko := hkid _ hmem
     have hid := hik _ hmem
     have hts := Xs XV kids j (by omega)
     have hfk := YB XV 4 (kids.take j) (fun x hx => Nat.le_of_eq (kidB_len x))
     have htl : (kids.take j).length ≤ 4 := by simp; omega
     have hXl : (B0 ++ (rows.flatMap YA ++ (kids.take j).flatMap XV)).length ≤ 200 := by simp only [List.length_append]; omega
     have hmm : B0 ++ (rows.flatMap YA ++ (kids.take j).flatMap XV) ++ keyB (kids[j]'(by omega)).t (kids[j]'(by omega)).id ++ [tB (kids[j]'(by omega)).page] = B0 ++ (rows.flatMap YA ++ (kids.take (j + 1)).flatMap XV) := by rw [hts]; simp [XV]
     have hll : (B0 ++ (rows.flatMap YA ++ (kids.take j).flatMap XV)).length + 3 + 1 = (B0 ++ (rows.flatMap YA ++ (kids.take (j + 1)).flatMap XV)).length := by rw [hts]; simp [kidB_len]; omega
     have hpg := tB_eq (t := (kids[j]'(by omega)).page) (by omega) (by omega)
     generalize kids[j]'(by omega) = x at *
     generalize hX : B0 ++ (rows.flatMap YA ++ (kids.take j).flatMap XV) = X at *
     repeat' (first | (refine Zh ?_; first | (refine Zf ?_; refine qQ ?_) | refine Zm ?_) | refine Zb ?_ | (refine Zi ?_; refine Zr ?_) | (refine Zj ?_; refine Zs ?_) | intro _)
     rename_i b9
     refine ZB (Zq _ _ ([[(b9, .cells ⟨kidV x⟩ 230 (0, 0))]])) (ZG (hT := tk) (Hp.le_refl _)) ?_
     all_goals (refine ZI 0 ?_; refine ZO 1 ?_; refine ZU 2 ?_; refine ZO 4 ?_; refine ZU 5 ?_; refine rCv 6 ?_)
     all_goals (refine YG (i := 3) (j := 7) ?_ ?_ <;> ((try refine Zn ?_); (first | (refine Ze (.func 228) ?_; refine qC rfl rfl (key_spec _ v _ X sp hown3 (by omega) x.t x.id hko.1.1 (by omega) hid) ?_; rintro v2 ρ4 L2 hle0 ⟨hle4, sp4, hown4, rfl⟩; simp only [List.cons_append, List.nil_append]) | (refine ZF rfl rfl rfl rfl (by simp) rfl rfl (fun _ => ?_); simp only [hpg]) | (refine Zm ?_; try intro _)) <;> ((try simp only [kM, kN, kO]); refine Zb ?_; refine Zo ?_)))
     all_goals (first | (refine Zt (i := 7) ?_; ((try refine Zn ?_); (first | (refine ZF rfl rfl rfl rfl (by simp) rfl rfl (fun _ => ?_); simp only [hpg]) | (refine Zm ?_; try intro _)) <;> ((try simp only [kM, kN, kO]); refine Zb ?_; refine Zo ?_))) | (refine Zt (i := 3) ?_; ((try refine Zn ?_); (first | (refine Ze (.func 228) ?_; refine qC rfl rfl (key_spec _ v _ X sp hown3 (by omega) x.t x.id hko.1.1 (by omega) hid) ?_; rintro v2 ρ4 L2 hle0 ⟨hle4, sp4, hown4, rfl⟩; simp only [List.cons_append, List.nil_append]) | (refine Zm ?_; try intro _)) <;> ((try simp only [kM, kN, kO]); refine Zb ?_; refine Zo ?_))))
     all_goals (refine Zt (i := 8) ?_; ((try refine Zn ?_); (first | (refine Ze (.func 228) ?_; refine qC rfl rfl (key_spec _ v _ X sp hown3 (by omega) x.t x.id hko.1.1 (by omega) hid) ?_; rintro v2 ρ4 L2 hle0 ⟨hle4, sp4, hown4, rfl⟩; simp only [List.cons_append, List.nil_append]) | (refine Xg (ys := [u8c (tB x.page)]) (m := 1) rfl rfl hown4 (hR := by infer_instance) SrcV.lit rfl rfl (by decide) rfl (by omega) (by omega) rfl (fun v5 sp5 hown5 => ?_); rw [show (X ++ keyB x.t x.id).map u8c ++ [u8c (tB x.page)] = (X ++ keyB x.t x.id ++ [tB x.page]).map u8c by simp, hmm] at hown5 ⊢; rw [hll] at hown5) | (refine Zm ?_; try intro _)) <;> ((try simp only [kM, kN, kO]); refine Zb ?_; refine Zo ?_)))
     all_goals (refine ZK ?_; refine rAs 9 ?_; refine ZE ?_)
     all_goals (repeat' (first | (refine Zh ?_; first | (refine Zf ?_; refine qQ ?_) | refine Zm ?_) | refine Zb ?_ | (refine Zi ?_; refine Zr ?_) | (refine Zj ?_; refine Zs ?_) | intro _))
     all_goals refine Zp (j + 1, _, v5, sp5) (⟨hlj, Hp.le_trans hle3 (by assumption), hown5⟩) Zl Zl rfl tk inferInstance (by first | omega | (dsimp only; omega))
    ·have hj2 : j = kn := by omega
     subst hj2
     rw [List.take_of_length_le (by omega)] at hown3 ⊢
     have hfin : B0 ++ (rows.flatMap YA ++ kids.flatMap XV) = XO ⟨kind, rows, kids⟩ := by rw [← hB0]; simp [XO]
     rw [hfin] at hown3 ⊢
     repeat' (first | (refine Zh ?_; first | (refine Zf ?_; refine qQ ?_) | refine Zm ?_) | refine Zb ?_ | (refine Zi ?_; refine Zr ?_) | (refine Zj ?_; refine Zs ?_) | intro _)
     refine XX _ (h := Rem.here) (fun ρ6 hle6 hfz => ?_)
     obtain ⟨a6, c6, rfl, hc6, hs6⟩ := hown3.sIn hfz
     exact qE ⟨Hp.le_trans hle1 (Hp.le_trans hle3 hle6), a6, _, c6, rfl, hc6, hs6, rfl⟩
  ·obtain ⟨B0, hB0⟩ : ∃ B0, tB kind :: cntB ⟨kind, rows, kids⟩ = B0 := ⟨_, rfl⟩
   have hX : B0 = [tB kind] ++ [UInt8.ofNat (rn + kn)] := by rw [← hB0]; simp [cntB, hk0, hrn, hkn]
   have hBl : B0.length ≤ 2 := by rw [hX]; simp
   have hcnt' : Value.int .u8 ((rn : Int) + (kn : Int)) = u8c (UInt8.ofNat (rn + kn)) := by rw [← hcnt]; simp
   repeat' (first | (refine Ze (.func 172) ?_; refine qC rfl rfl (hck _ ⟨hr, hk, hrb, hkb, hrc, hkc⟩) ?_; rintro v ρ' L' hle ⟨rfl, rfl, rfl⟩ <;> (try simp only [kM, kN, kO])) | (refine ZF rfl rfl rfl rfl (by simp) rfl rfl (fun _ => ?_); first | simp only [hkB] | simp only [hcnt']) | (refine Zh ?_; first | (refine Zf ?_; refine qQ ?_) | refine Zm ?_) | refine Zb ?_ | (refine Zi ?_; refine Zr ?_) | (refine Zj ?_; refine Zs ?_) | intro _)
   rename_i b1 b2 b3
   rw [show ([(b2, Obj.cells ⟨[u8c (tB kind)]⟩ 5 (0, 0))] : List (Nat × Obj)) = ZN (.slice (some ⟨b2, 0, none⟩) 1 1) ([tB kind].map u8c) [] 5 from rfl]
   refine Xg (ys := [u8c (UInt8.ofNat (rn + kn))]) (m := 1) (n := 1) (xs := [tB kind].map u8c) (sp := []) rfl rfl ⟨.inr ⟨b2, 1, rfl, rfl, rfl, Nat.le_refl _⟩⟩ (hR := by infer_instance) SrcV.lit rfl rfl (by decide) rfl (by omega) (by omega) rfl (fun v0 sp0 hown0 => ?_)
   rw [show [tB kind].map u8c ++ [u8c (UInt8.ofNat (rn + kn))] = B0.map u8c by rw [hX]; rfl] at hown0 ⊢
   replace hown0 : OwnS v0 B0.length (B0.map u8c) sp0 1 := by
    have e : B0.length = 1 + 1 := by rw [hX]; rfl
    rw [e]; exact hown0
   repeat' (first | (refine Zh ?_; first | (refine Zf ?_; refine qQ ?_) | refine Zm ?_) | refine Zb ?_ | (refine Zi ?_; refine Zr ?_) | (refine Zj ?_; refine Zs ?_) | intro _)
   rw [show B0.map u8c = (B0 ++ (rows.take 0).flatMap YA).map u8c by simp]
   refine ZC [(1, _), (2, _), (3, _), (34, _), (35, _)] (fun (ζ : (Nat) × (Hp) × (Value) × (List Value)) => [(36, .int .i64 ζ.1), (5, ζ.2.2.1)]) (fun (ζ : (Nat) × (Hp) × (Value) × (List Value)) => ζ.2.1) (fun (ζ : (Nat) × (Hp) × (Value) × (List Value)) => [ZN ζ.2.2.1 ((B0 ++ (rows.take ζ.1).flatMap YA).map u8c) ζ.2.2.2 5, [(b1, .cells ⟨[.int .i64 kind, .slice ra rn rc, .slice ka kn kc]⟩ 98 (0, 0))]]) (fun (ζ : (Nat) × (Hp) × (Value) × (List Value)) => ζ.1 ≤ rn ∧ ρ'.le ζ.2.1 ∧ OwnS ζ.2.2.1 (B0 ++ (rows.take ζ.1).flatMap YA).length ((B0 ++ (rows.take ζ.1).flatMap YA).map u8c) ζ.2.2.2 1) (fun (ζ : (Nat) × (Hp) × (Value) × (List Value)) => rn - ζ.1) ((0, ρ', v0, sp0)) (⟨Nat.zero_le _, Hp.le_refl _, by simpa using hown0⟩) Zl Zl rfl tk ?_
   rintro ⟨k, ρ1, v, sp⟩ hI
   try simp only [List.cons_append, List.nil_append, List.append_assoc, List.append_eq] at hI ⊢
   try dsimp only at hI ⊢
   obtain ⟨hkn0, hle1, hown⟩ := hI
   by_cases hlt : k < rn
   ·obtain ⟨b, off, C, T, fr, rfl, hb, hfit, hc⟩ := (hr.mono hle1).get (show k < rows.length by omega)
    have hmem : rows[k]'(by omega) ∈ rows := List.getElem_mem _
    have hro := hrow _ hmem
    have hid := hir _ hmem
    have hts := Xs YA rows k (by omega)
    have hfl := YB YA 20 (rows.take k) (fun x hx => rowB_le (hrow x (List.mem_of_mem_take hx)))
    have htl : (rows.take k).length ≤ 4 := by simp; omega
    have hXl : (B0 ++ (rows.take k).flatMap YA).length ≤ 100 := by simp only [List.length_append]; omega
    have hll : (B0 ++ (rows.take k).flatMap YA).length + (YA (rows[k]'(by omega))).length = (B0 ++ (rows.take (k + 1)).flatMap YA).length := by rw [hts]; simp; omega
    have hmm : B0 ++ (rows.take k).flatMap YA ++ YA (rows[k]'(by omega)) = B0 ++ (rows.take (k + 1)).flatMap YA := by rw [hts]; simp
    generalize rows[k]'(by omega) = x at *
    repeat' (first | (refine Ze (.func 222) ?_; refine qC rfl rfl (claid_spec _ v _ _ sp hown (by omega) x hro hid) ?_; rintro v2 ρ2 L2 hle0 ⟨hle2, sp2, hown2, rfl⟩; simp only [List.cons_append, List.nil_append, hmm]; rw [hmm, hll] at hown2) | (refine Zh ?_; first | (refine Zf ?_; refine qQ ?_) | refine Zm ?_) | refine Zb ?_ | (refine Zi ?_; refine Zr ?_) | (refine Zj ?_; refine Zs ?_) | intro _)
    refine Zp (k + 1, _, v2, sp2) (⟨hlt, Hp.le_trans hle1 hle2, hown2⟩) Zl Zl rfl tk inferInstance (by first | omega | (dsimp only; omega))
   ·have hk2 : k = rn := by omega
    subst hk2
    rw [List.take_of_length_le (by omega)] at hown ⊢
    repeat' (first | (refine Zh ?_; first | (refine Zf ?_; refine qQ ?_) | refine Zm ?_) | refine Zb ?_ | (refine Zi ?_; refine Zr ?_) | (refine Zj ?_; refine Zs ?_) | intro _)
    rw [show (B0 ++ rows.flatMap YA).map u8c = (B0 ++ (rows.flatMap YA ++ (kids.take 0).flatMap XV)).map u8c by simp]
    refine ZC [(2, _), (3, _), (45, _), (46, _)] (fun (ζ : (Nat) × (Hp) × (Value) × (List Value)) => [(47, .int .i64 ζ.1), (5, ζ.2.2.1)]) (fun (ζ : (Nat) × (Hp) × (Value) × (List Value)) => ζ.2.1) (fun (ζ : (Nat) × (Hp) × (Value) × (List Value)) => [ZN ζ.2.2.1 ((B0 ++ (rows.flatMap YA ++ (kids.take ζ.1).flatMap XV)).map u8c) ζ.2.2.2 5]) (fun (ζ : (Nat) × (Hp) × (Value) × (List Value)) => ζ.1 ≤ kn ∧ ρ1.le ζ.2.1 ∧ OwnS ζ.2.2.1 (B0 ++ (rows.flatMap YA ++ (kids.take ζ.1).flatMap XV)).length ((B0 ++ (rows.flatMap YA ++ (kids.take ζ.1).flatMap XV)).map u8c) ζ.2.2.2 1) (fun (ζ : (Nat) × (Hp) × (Value) × (List Value)) => kn - ζ.1) ((0, ρ1, v, sp)) (⟨Nat.zero_le _, Hp.le_refl _, by simpa using hown⟩) Zl Zl rfl tk ?_
    rintro ⟨j, ρ2, v, sp⟩ hI
    try simp only [List.cons_append, List.nil_append, List.append_assoc, List.append_eq] at hI ⊢
    try dsimp only at hI ⊢
    have hfl := YB YA 20 rows (fun x hx => rowB_le (hrow x hx))
    obtain ⟨hj0, hle3, hown3⟩ := hI
    by_cases hlj : j < kn
    ·obtain ⟨b, off, C, T, fr, rfl, hb, hfit, hc⟩ := (hk.mono (Hp.le_trans hle1 hle3)).get (show j < kids.length by omega)
     have hmem : kids[j]'(by omega) ∈ kids := List.getElem_mem _
     have hko := hkid _ hmem
     have hid := hik _ hmem
     have hts := Xs XV kids j (by omega)
     have hfk := YB XV 4 (kids.take j) (fun x hx => Nat.le_of_eq (kidB_len x))
     have htl : (kids.take j).length ≤ 4 := by simp; omega
     have hXl : (B0 ++ (rows.flatMap YA ++ (kids.take j).flatMap XV)).length ≤ 200 := by simp only [List.length_append]; omega
     have hmm : B0 ++ (rows.flatMap YA ++ (kids.take j).flatMap XV) ++ keyB (kids[j]'(by omega)).t (kids[j]'(by omega)).id ++ [tB (kids[j]'(by omega)).page] = B0 ++ (rows.flatMap YA ++ (kids.take (j + 1)).flatMap XV) := by rw [hts]; simp [XV]
     have hll : (B0 ++ (rows.flatMap YA ++ (kids.take j).flatMap XV)).length + 3 + 1 = (B0 ++ (rows.flatMap YA ++ (kids.take (j + 1)).flatMap XV)).length := by rw [hts]; simp [kidB_len]; omega
     have hpg := tB_eq (t := (kids[j]'(by omega)).page) (by omega) (by omega)
     generalize kids[j]'(by omega) = x at *
     generalize hX : B0 ++ (rows.flatMap YA ++ (kids.take j).flatMap XV) = X at *
     repeat' (first | (refine Zh ?_; first | (refine Zf ?_; refine qQ ?_) | refine Zm ?_) | refine Zb ?_ | (refine Zi ?_; refine Zr ?_) | (refine Zj ?_; refine Zs ?_) | intro _)
     rename_i b9
     refine ZB (Zq _ _ ([[(b9, .cells ⟨kidV x⟩ 230 (0, 0))]])) (ZG (hT := tk) (Hp.le_refl _)) ?_
     all_goals (refine ZI 0 ?_; refine ZO 1 ?_; refine ZU 2 ?_; refine ZO 4 ?_; refine ZU 5 ?_; refine rCv 6 ?_)
     all_goals (refine YG (i := 3) (j := 7) ?_ ?_ <;> ((try refine Zn ?_); (first | (refine Ze (.func 228) ?_; refine qC rfl rfl (key_spec _ v _ X sp hown3 (by omega) x.t x.id hko.1.1 (by omega) hid) ?_; rintro v2 ρ4 L2 hle0 ⟨hle4, sp4, hown4, rfl⟩; simp only [List.cons_append, List.nil_append]) | (refine ZF rfl rfl rfl rfl (by simp) rfl rfl (fun _ => ?_); simp only [hpg]) | (refine Zm ?_; try intro _)) <;> ((try simp only [kM, kN, kO]); refine Zb ?_; refine Zo ?_)))
     all_goals (first | (refine Zt (i := 7) ?_; ((try refine Zn ?_); (first | (refine ZF rfl rfl rfl rfl (by simp) rfl rfl (fun _ => ?_); simp only [hpg]) | (refine Zm ?_; try intro _)) <;> ((try simp only [kM, kN, kO]); refine Zb ?_; refine Zo ?_))) | (refine Zt (i := 3) ?_; ((try refine Zn ?_); (first | (refine Ze (.func 228) ?_; refine qC rfl rfl (key_spec _ v _ X sp hown3 (by omega) x.t x.id hko.1.1 (by omega) hid) ?_; rintro v2 ρ4 L2 hle0 ⟨hle4, sp4, hown4, rfl⟩; simp only [List.cons_append, List.nil_append]) | (refine Zm ?_; try intro _)) <;> ((try simp only [kM, kN, kO]); refine Zb ?_; refine Zo ?_))))
     all_goals (refine Zt (i := 8) ?_; ((try refine Zn ?_); (first | (refine Ze (.func 228) ?_; refine qC rfl rfl (key_spec _ v _ X sp hown3 (by omega) x.t x.id hko.1.1 (by omega) hid) ?_; rintro v2 ρ4 L2 hle0 ⟨hle4, sp4, hown4, rfl⟩; simp only [List.cons_append, List.nil_append]) | (refine Xg (ys := [u8c (tB x.page)]) (m := 1) rfl rfl hown4 (hR := by infer_instance) SrcV.lit rfl rfl (by decide) rfl (by omega) (by omega) rfl (fun v5 sp5 hown5 => ?_); rw [show (X ++ keyB x.t x.id).map u8c ++ [u8c (tB x.page)] = (X ++ keyB x.t x.id ++ [tB x.page]).map u8c by simp, hmm] at hown5 ⊢; rw [hll] at hown5) | (refine Zm ?_; try intro _)) <;> ((try simp only [kM, kN, kO]); refine Zb ?_; refine Zo ?_)))
     all_goals (refine ZK ?_; refine rAs 9 ?_; refine ZE ?_)
     all_goals (repeat' (first | (refine Zh ?_; first | (refine Zf ?_; refine qQ ?_) | refine Zm ?_) | refine Zb ?_ | (refine Zi ?_; refine Zr ?_) | (refine Zj ?_; refine Zs ?_) | intro _))
     all_goals refine Zp (j + 1, _, v5, sp5) (⟨hlj, Hp.le_trans hle3 (by assumption), hown5⟩) Zl Zl rfl tk inferInstance (by first | omega | (dsimp only; omega))
    ·have hj2 : j = kn := by omega
     subst hj2
     rw [List.take_of_length_le (by omega)] at hown3 ⊢
     have hfin : B0 ++ (rows.flatMap YA ++ kids.flatMap XV) = XO ⟨kind, rows, kids⟩ := by rw [← hB0]; simp [XO]
     rw [hfin] at hown3 ⊢
     repeat' (first | (refine Zh ?_; first | (refine Zf ?_; refine qQ ?_) | refine Zm ?_) | refine Zb ?_ | (refine Zi ?_; refine Zr ?_) | (refine Zj ?_; refine Zs ?_) | intro _)
     refine XX _ (h := Rem.here) (fun ρ6 hle6 hfz => ?_)
     obtain ⟨a6, c6, rfl, hc6, hs6⟩ := hown3.sIn hfz
     exact qE ⟨Hp.le_trans hle1 (Hp.le_trans hle3 hle6), a6, _, c6, rfl, hc6, hs6, rfl⟩
instance (priority := 1200) eqRow {x y : Row} : EqC Tryz.prog 8 58 (.agg ⟨rowV x⟩) (.agg ⟨rowV y⟩) (decide (x = y)) := by
 have h : EqC Tryz.prog 8 58 (.agg ⟨[.int .i64 x.t, .int .u16 x.id, .int .i64 x.val, strV x.note]⟩) (.agg ⟨[.int .i64 y.t, .int .u16 y.id, .int .i64 y.val, strV y.note]⟩) _ := inferInstance
 refine ⟨fun d w hd => ?_⟩
 rw [h.out d w hd]
 congr 1
 obtain ⟨t, i, v, n⟩ := x
 obtain ⟨t', i', v', n'⟩ := y
 simp only [Row.mk.injEq, Bool.and_true, Bool.decide_and]
 have e : ((i : Int) == (i' : Int)) = decide (i = i') := by
  by_cases h : i = i'
  ·subst h; simp
  ·rw [decide_eq_false h]; simp only [beq_eq_false_iff_ne, ne_eq]; omega
 rw [e]
 by_cases h1 : t = t' <;> by_cases h2 : i = i' <;> by_cases h3 : v = v' <;> simp [h1, h2, h3]
instance (priority := 1200) eqKid {x y : Kid} : EqC Tryz.prog 8 230 (.agg ⟨kidV x⟩) (.agg ⟨kidV y⟩) (decide (x = y)) := by
 have h : EqC Tryz.prog 8 230 (.agg ⟨[.int .i64 x.t, .int .u16 x.id, .int .i64 x.page]⟩) (.agg ⟨[.int .i64 y.t, .int .u16 y.id, .int .i64 y.page]⟩) _ := inferInstance
 refine ⟨fun d w hd => ?_⟩
 rw [h.out d w hd]
 congr 1
 obtain ⟨t, i, v⟩ := x
 obtain ⟨t', i', v'⟩ := y
 simp only [Kid.mk.injEq, Bool.and_true, Bool.decide_and]
 have e : ((i : Int) == (i' : Int)) = decide (i = i') := by
  by_cases h : i = i'
  ·subst h; simp
  ·rw [decide_eq_false h]; simp only [beq_eq_false_iff_ne, ne_eq]; omega
 rw [e]
 by_cases h1 : t = t' <;> by_cases h2 : i = i' <;> by_cases h3 : v = v' <;> simp [h1, h2, h3]
structure RowFit (r : Row) : Prop where
 id : r.id < 65536
 val : -9223372036854775808 ≤ r.val ∧ r.val ≤ 9223372036854775807
structure KidFit (k : Kid) : Prop where
 id : k.id < 65536
 t : 0 ≤ k.t ∧ k.t < 256
 page : 0 ≤ k.page ∧ k.page < 256
structure ContFit (c : Cont) : Prop where
 row : ∀ r ∈ c.rows, RowFit r
 kid : ∀ k ∈ c.kids, KidFit k
theorem contB_len {c : Cont} (h : YW c = true) : (XO c).length ≤ 82 := by
 have hF := contOk_facts h
 have h1 := YB YA 20 c.rows (fun x hx => rowB_le (hF.row x hx))
 have h2 := YB XV 4 c.kids (fun x hx => Nat.le_of_eq (kidB_len x))
 have h3 : (cntB c).length ≤ 1 := by unfold cntB; split <;> simp
 have hk := hF.kind
 have hrl := hF.rl
 have hkl := hF.kl
 simp only [XO, List.length_cons, List.length_append]
 have er : c.rows = [] → (c.rows.flatMap YA).length = 0 := fun e => by rw [e]; rfl
 have ek : c.kids = [] → (c.kids.flatMap XV).length = 0 := fun e => by rw [e]; rfl
 rcases hk with ⟨_, hr, hk⟩ | ⟨_, hk⟩ | ⟨_, hr, _⟩
 ·have := er hr; have := ek hk; omega
 ·have := ek hk; omega
 ·have := er hr; omega
structure CI (ρ : Hp) (v : CV) (c : Cont) : Prop where
 cin : CIn ρ v c.rows c.kids
 row : ∀ r ∈ c.rows, RowFit r
 kid : ∀ k ∈ c.kids, k.id < 65536
theorem CI.mono {ρ ρ' v c} (h : CI ρ v c) (hle : ρ.le ρ') : CI ρ' v c := ⟨h.cin.mono hle, h.row, h.kid⟩
theorem CI.nil {ρ : Hp} : CI ρ ⟨none, 0, 0, none, 0, 0⟩ ⟨0, [], []⟩ := ⟨CIn.nil, by simp, by simp⟩
structure Im where
 page : Int
 bv : CV
 b : Cont
 av : CV
 a : Cont
abbrev imV (x : Im) : List Value := [.int .i64 x.page, .int .i64 x.b.kind, .slice x.bv.ra x.bv.rn x.bv.rc, .slice x.bv.ka x.bv.kn x.bv.kc, .int .i64 x.a.kind, .slice x.av.ra x.av.rn x.av.rc, .slice x.av.ka x.av.kn x.av.kc]
structure Im.In (ρ : Hp) (x : Im) : Prop where
 b : CI ρ x.bv x.b
 a : CI ρ x.av x.a
theorem Im.In.mono {ρ ρ' x} (h : Im.In ρ x) (hle : ρ.le ρ') : Im.In ρ' x := ⟨h.b.mono hle, h.a.mono hle⟩
abbrev Im.says (x : Im) : Int × Cont × Cont := (x.page, x.b, x.a)
structure Stp where
 kind : Int
 row : Row
 by' : Int
deriving DecidableEq
abbrev stpV (s : Stp) : List Value := [.int .i64 s.kind, .int .i64 s.row.t, .int .u16 s.row.id, .int .i64 s.row.val, strV s.row.note, .int .i64 s.by']
structure CkT where
 txn : Int
 first : Nat
 last : Nat
 undo : Nat
 state : Int
deriving DecidableEq
abbrev ckTV (t : CkT) : List Value := [.int .i64 t.txn, .int .u64 t.first, .int .u64 t.last, .int .u64 t.undo, .int .i64 t.state]
structure Yp where
 page : Int
 since : Nat
deriving DecidableEq
abbrev YM (p : Yp) : List Value := [.int .i64 p.page, .int .u64 p.since]
structure Rc where
 kind : Int
 lsn : Nat
 txn : Int
 prev : Nat
 next : Nat
 ims : List Im
 steps : List Stp
 nextTxn : Int
 txns : List CkT
 dirty : List Yp
structure SV where
 a : Option Addr
 n : Nat
 c : Nat
abbrev SV.v (s : SV) : Value := .slice s.a s.n s.c
structure RV where
 i : SV
 s : SV
 t : SV
 d : SV
abbrev YR (v : RV) (r : Rc) : List Value := [.int .i64 r.kind, .int .u64 r.lsn, .int .i64 r.txn, .int .u64 r.prev, .int .u64 r.next, .slice v.i.a v.i.n v.i.c, .slice v.s.a v.s.n v.s.c, .int .i64 r.nextTxn, .slice v.t.a v.t.n v.t.c, .slice v.d.a v.d.n v.d.c]
theorem imV_len (x : Im) : (imV x).length = 7 := rfl
theorem stpV_len (x : Stp) : (stpV x).length = 6 := rfl
theorem ckTV_len (x : CkT) : (ckTV x).length = 5 := rfl
theorem Wd (x : Yp) : (YM x).length = 2 := rfl
structure AS (ρ : Hp) (sz : Nat) {α : Type} (g : α → List Value) (s : SV) (l : List α) : Prop where
 at' : AIn ρ sz g s.a s.n l
 big : s.n ≤ 1000000
 cap : s.n ≤ s.c
theorem AS.mono {ρ ρ' : Hp} {sz : Nat} {α : Type} {g : α → List Value} {s : SV} {l : List α} (h : AS ρ sz g s l) (hle : ρ.le ρ') : AS ρ' sz g s l := ⟨h.at'.mono hle, h.big, h.cap⟩
theorem AS.nil {ρ : Hp} {sz : Nat} {α : Type} {g : α → List Value} : AS ρ sz g ⟨none, 0, 0⟩ [] := ⟨AIn.nil, Nat.zero_le _, Nat.le_refl _⟩
structure RcIn (ρ : Hp) (v : RV) (r : Rc) : Prop where
 i : AS ρ 7 imV v.i r.ims
 im : ∀ x ∈ r.ims, Im.In ρ x
 s : AS ρ 6 stpV v.s r.steps
 t : AS ρ 5 ckTV v.t r.txns
 d : AS ρ 2 YM v.d r.dirty
 sf : ∀ s ∈ r.steps, RowFit s.row
theorem RcIn.mono {ρ ρ' v r} (h : RcIn ρ v r) (hle : ρ.le ρ') : RcIn ρ' v r := ⟨h.i.mono hle, fun x hx => (h.im x hx).mono hle, h.s.mono hle, h.t.mono hle, h.d.mono hle, h.sf⟩
def upB {α : Type} (right : α → Bool) (by' : α → Int) (l : List α) (k : Nat) : Bool := ZW l.length (fun _ x => right x) (fun y x => decide (by' y < by' x)) l k
def pageOk (n : Int) : Bool := decide (0 ≤ n ∧ n < 64)
def imOk (before : Bool) (x : Im) : Bool := pageOk x.page && (YW x.a && (YW x.b && (before || decide (x.b.kind = 0))))
def imsOk (before : Bool) (l : List Im) : Bool := decide (l.length ≤ 16) && upB (imOk before) Im.page l l.length
def onlyOk (s : Stp) : Bool := decide (s.row.val = 0 ∧ s.row.note = []) && decide (0 ≤ s.row.t ∧ s.row.t < 3)
def Xq (s : Stp) : Bool :=
 if s.kind = 1 then onlyOk s
 else if s.kind = 4 then onlyOk s && decide (s.by' = 0)
 else if s.kind = 2 ∨ s.kind = 3 then decide (s.by' = 0) && XN s.row
 else false
def ckTOk (lsn : Nat) (next : Int) (t : CkT) : Bool := decide (1 ≤ t.txn ∧ t.txn < next ∧ 1 ≤ t.first ∧ t.first ≤ t.last ∧ t.last < lsn ∧ t.undo ≤ t.last ∧ 1 ≤ t.state ∧ t.state ≤ 3)
def ckPOk (lsn : Nat) (p : Yp) : Bool := pageOk p.page && decide (1 ≤ p.since ∧ p.since < lsn)
def headOk (r : Rc) : Bool := decide (1 ≤ r.lsn ∧ r.lsn ≤ 1099511627776 ∧ r.prev < r.lsn ∧ 0 ≤ r.txn ∧ r.txn ≤ 1073741824 ∧ (r.kind = 9 ↔ r.txn = 0) ∧ ((r.kind = 9 ∨ r.kind = 1) ↔ r.prev = 0))
def askOk (r : Rc) : Bool :=
 if r.kind = 2 then decide (0 < r.ims.length) && imsOk true r.ims
 else if r.kind = 3 then decide (r.next < r.prev)
 else if r.kind = 4 then decide (r.next < r.prev) && (decide (0 < r.steps.length ∧ r.steps.length ≤ 2) && r.steps.all Xq)
 else if r.kind = 5 then decide (r.next < r.lsn) && imsOk false r.ims
 else if r.kind = 9 then decide (1 ≤ r.nextTxn ∧ r.nextTxn ≤ 1073741824 ∧ r.txns.length ≤ 8) && (upB (ckTOk r.lsn r.nextTxn) CkT.txn r.txns r.txns.length && upB (ckPOk r.lsn) Yp.page r.dirty r.dirty.length)
 else true
def bareOk (r : Rc) : Bool := decide (
 (r.next = 0 ∨ r.kind = 3 ∨ r.kind = 4 ∨ r.kind = 5) ∧ (r.ims = [] ∨ r.kind = 2 ∨ r.kind = 5) ∧ (r.steps = [] ∨ r.kind = 4) ∧
 ((r.txns = [] ∧ r.dirty = [] ∧ r.nextTxn = 0) ∨ r.kind = 9))
def ZZ (r : Rc) : Bool := decide (1 ≤ r.kind ∧ r.kind ≤ 9) && (headOk r && (askOk r && bareOk r))
end Go.Proofs.E
