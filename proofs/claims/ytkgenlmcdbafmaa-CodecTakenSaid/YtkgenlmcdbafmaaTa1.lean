/- CodecTaken holds of every row of bytes (no condition): what was taken has the bytes that it was taken from. Part 1 of 1. -/
import Derived.Test.YtkgenlmcdbafmaaB6
import Derived.Test.YtkgenlmcdbafmaaRows
namespace Go.Proofs.E
open Go
set_option linter.unusedVariables false
set_option linter.unusedSimpArgs false
set_option linter.unusedSectionVars false
set_option maxRecDepth 4000
set_option maxHeartbeats 1000000
attribute [local irreducible] Yl TL TC TE Spec YSpec R1 Hp.le EnvLe TS TR YS Stays
/-! ## what is taken is what its bytes are -/
theorem numR_zero {k : Nat} {l : List UInt8} {st : Int} (h : (numR k l st).2.2 = 0) : st = 0 ∧ k ≤ l.length ∧ numR k l st = (unbe (l.take k), l.drop k, 0) := by
  unfold numR at h ⊢
  by_cases hs : st ≠ 0
  · rw [if_pos hs] at h; exact absurd h hs
  · have h0 : st = 0 := by simpa using hs
    rw [if_neg hs] at h ⊢
    by_cases hl : l.length < k
    · rw [if_pos hl] at h; simp at h
    · rw [if_neg hl]; exact ⟨h0, by omega, rfl⟩
theorem rawR_zero {k : Nat} {l : List UInt8} {st : Int} (h : (rawR k l st).2.2 = 0) : st = 0 ∧ k ≤ l.length ∧ rawR k l st = (l.take k, l.drop k, 0) := by
  unfold rawR at h ⊢
  by_cases hs : st ≠ 0
  · rw [if_pos hs] at h; exact absurd h hs
  · have h0 : st = 0 := by simpa using hs
    rw [if_neg hs] at h ⊢
    by_cases hl : l.length < k
    · rw [if_pos hl] at h; simp at h
    · rw [if_neg hl]; exact ⟨h0, by omega, rfl⟩
theorem be_take {k : Nat} {l : List UInt8} (h : k ≤ l.length) : be k (unbe (l.take k)) = l.take k := by
  have := be_unbe (l.take k)
  rwa [List.length_take, Nat.min_eq_left h] at this
theorem be_one (x : Nat) : be 1 x = [UInt8.ofNat x] := by simp [be]
theorem tB_nat (x : Nat) : tB (x : Int) = UInt8.ofNat x := rfl
theorem vN_i64N {x : Nat} (h : x < 18446744073709551616) : vN (i64N x) = x := by
  have h1 : IntKind.u64.wrap (i64N x) = x := by
    unfold i64N
    simp only [IntKind.wrap, IntKind.bits, IntKind.signed, Bool.true_and, Bool.false_and, Bool.false_eq_true, if_false]
    split <;> simp_all <;> omega
  simp [vN, h1]
theorem i64N_vN {v : Int} (h : -9223372036854775808 ≤ v ∧ v ≤ 9223372036854775807) : i64N (vN v) = v := by
  unfold i64N
  rw [← vN_eq]
  simp only [IntKind.wrap, IntKind.bits, IntKind.signed, Bool.true_and, Bool.false_and, Bool.false_eq_true, if_false]
  split <;> simp_all <;> omega
theorem needB_false {bad : Bool} {st : Int} {is : Bool} (h : needB bad st is = false) (hs : st = 0) : bad = false ∧ is = true := by
  subst hs
  cases bad <;> cases is <;> simp_all [needB]
structure RowFit (r : Row) : Prop where
  id : r.id < 65536
  val : -9223372036854775808 ≤ r.val ∧ r.val ≤ 9223372036854775807
theorem i64N_fit (x : Nat) : -9223372036854775808 ≤ i64N x ∧ i64N x ≤ 9223372036854775807 := by
  unfold i64N
  simp only [IntKind.wrap, IntKind.bits, IntKind.signed, Bool.true_and]
  split <;> simp_all <;> omega
theorem rowR_ok {l l' : List UInt8} {st : Int} {bad : Bool} {r : Row} (h : rowR l st bad = (r, l', 0, false)) : st = 0 ∧ bad = false ∧ rowOk r = true ∧ l = rowB r ++ l' ∧ RowFit r := by
  unfold rowR at h
  dsimp only at h
  split at h
  · rename_i hok
    rw [Bool.and_eq_true, Bool.not_eq_true'] at hok
    obtain ⟨hb1, hs1⟩ := hok
    have hs1 := of_decide_eq_true hs1
    obtain ⟨rfl, hl1, e1⟩ := numR_zero hs1
    obtain ⟨rfl, ht⟩ := needB_false hb1 hs1
    split at h
    · rename_i hok2
      rw [Bool.and_eq_true, Bool.not_eq_true'] at hok2
      obtain ⟨hb2, hs4⟩ := hok2
      have hs4 := of_decide_eq_true hs4
      obtain ⟨hs3, hl4, e4⟩ := numR_zero hs4
      obtain ⟨hs2, hl3, e3⟩ := numR_zero hs3
      obtain ⟨hs1', hl2, e2⟩ := numR_zero hs2
      obtain ⟨_, hn⟩ := needB_false hb2 hs4
      have ht := of_decide_eq_true ht
      have hn := of_decide_eq_true hn
      simp only [Prod.mk.injEq] at h
      obtain ⟨h1, h2, h3, h4⟩ := h
      obtain ⟨_, hl5, e5⟩ := rawR_zero h3
      subst h1; subst h2
      rw [e5]
      simp only [e4] at hl5 hn e5 ⊢
      simp only [e3] at hl4 hl5 hn e5 ⊢
      simp only [e2] at hl3 hl4 hl5 hn e5 ⊢
      simp only [e1] at hl2 hl3 hl4 hl5 hn ht e5 ⊢
      have b1 := be_take hl1
      have b2 := be_take hl2
      have b3 := be_take hl3
      have b4 := be_take hl4
      rw [be_one] at b1 b4
      have u2 := unbe_lt ((l.drop 1).take 2)
      have u3 := unbe_lt (((l.drop 1).drop 2).take 8)
      rw [List.length_take, Nat.min_eq_left hl2] at u2
      rw [List.length_take, Nat.min_eq_left hl3] at u3
      have hlen : (List.take (unbe (List.take 1 (List.drop 8 (List.drop 2 (List.drop 1 l))))) (List.drop 1 (List.drop 8 (List.drop 2 (List.drop 1 l))))).length = unbe (List.take 1 (List.drop 8 (List.drop 2 (List.drop 1 l)))) := by rw [List.length_take, Nat.min_eq_left hl5]
      refine ⟨by trivial, by trivial, ?_, ?_, ⟨by dsimp only; omega, i64N_fit _⟩⟩
      · unfold rowOk
        dsimp only
        rw [hlen]
        exact decide_eq_true ⟨⟨by omega, by omega⟩, by omega⟩
      · unfold rowB keyB
        dsimp only
        rw [hlen, vN_i64N (by omega), b3, b2, tB_nat]
        have c1 : UInt8.ofNat (unbe (List.take 1 l)) :: (List.take 2 (List.drop 1 l)) = List.take 1 l ++ List.take 2 (List.drop 1 l) := by
          show [UInt8.ofNat (unbe (List.take 1 l))] ++ _ = _
          rw [b1]
        rw [c1]
        have c4 : ∀ X : List UInt8, UInt8.ofNat (unbe (List.take 1 (List.drop 8 (List.drop 2 (List.drop 1 l))))) :: X = List.take 1 (List.drop 8 (List.drop 2 (List.drop 1 l))) ++ X := fun X => by
          show [UInt8.ofNat (unbe (List.take 1 (List.drop 8 (List.drop 2 (List.drop 1 l)))))] ++ X = _
          rw [b4]
        rw [c4]
        simp only [List.append_assoc, List.take_append_drop]
    · rename_i hok2
      simp only [Prod.mk.injEq] at h
      obtain ⟨_, _, h3, h4⟩ := h
      exact absurd (by rw [h4, h3]; rfl) hok2
  · rename_i hok
    simp only [Prod.mk.injEq] at h
    obtain ⟨_, _, h3, h4⟩ := h
    exact absurd (by rw [h4, h3]; rfl) hok
structure KidFit (k : Kid) : Prop where
  id : k.id < 65536
  t : 0 ≤ k.t ∧ k.t < 256
  page : 0 ≤ k.page ∧ k.page < 256
theorem kidRB_ok {l l' : List UInt8} {st : Int} {bad : Bool} {r : Kid} (h : kidRB l st bad = (r, l', 0, false)) : st = 0 ∧ bad = false ∧ l = kidB r ++ l' ∧ KidFit r := by
  unfold kidRB kidR at h
  dsimp only at h
  simp only [Prod.mk.injEq] at h
  obtain ⟨h1, h2, h3, h4⟩ := h
  obtain ⟨hs2, hl3, e3⟩ := numR_zero h3
  obtain ⟨hs1, hl2, e2⟩ := numR_zero hs2
  obtain ⟨rfl, hl1, e1⟩ := numR_zero hs1
  subst h1; subst h2
  simp only [e3]
  simp only [e2] at hl3 ⊢
  simp only [e1] at hl2 hl3 ⊢
  have b1 := be_take hl1
  have b2 := be_take hl2
  have b3 := be_take hl3
  rw [be_one] at b1 b3
  have u1 := unbe_lt (l.take 1)
  have u2 := unbe_lt ((l.drop 1).take 2)
  have u3 := unbe_lt (((l.drop 1).drop 2).take 1)
  rw [List.length_take, Nat.min_eq_left hl1] at u1
  rw [List.length_take, Nat.min_eq_left hl2] at u2
  rw [List.length_take, Nat.min_eq_left hl3] at u3
  refine ⟨by trivial, h4, ?_, ⟨by dsimp only; omega, by dsimp only; omega, by dsimp only; omega⟩⟩
  unfold kidB keyB
  dsimp only
  rw [b2, tB_nat, tB_nat]
  have c1 : ∀ X : List UInt8, UInt8.ofNat (unbe (List.take 1 l)) :: X = List.take 1 l ++ X := fun X => by
    show [UInt8.ofNat (unbe (List.take 1 l))] ++ X = _
    rw [b1]
  rw [c1, b3]
  simp only [List.append_assoc, List.take_append_drop]
theorem manyTo_ok {α : Type} {f : List UInt8 → Int → Bool → α × RS3} {enc : α → List UInt8} {fit : α → Prop} (hf : ∀ {l l' : List UInt8} {st : Int} {bad : Bool} {x : α}, f l st bad = (x, l', 0, false) → st = 0 ∧ bad = false ∧ l = enc x ++ l' ∧ fit x) :
    ∀ {n : Nat} {l l' : List UInt8} {st : Int} {bad : Bool} {xs : List α}, manyTo f n l st bad = (xs, l', 0, false) → st = 0 ∧ bad = false ∧ xs.length = n ∧ l = xs.flatMap enc ++ l' ∧ ∀ x ∈ xs, fit x
  | 0, l, l', st, bad, xs, h => by
    rw [manyTo] at h
    simp only [Prod.mk.injEq] at h
    obtain ⟨rfl, rfl, rfl, rfl⟩ := h
    exact ⟨rfl, rfl, rfl, by simp, by simp⟩
  | n + 1, l, l', st, bad, xs, h => by
    rw [manyTo] at h
    split at h
    · simp only [Prod.mk.injEq] at h
      obtain ⟨h1, h2⟩ := h
      have key : manyTo f n (f l st bad).2.1 (f l st bad).2.2.1 (f l st bad).2.2.2 = ((manyTo f n (f l st bad).2.1 (f l st bad).2.2.1 (f l st bad).2.2.2).1, l', 0, false) := by rw [← h2]
      obtain ⟨g1, g2, g3, g4, g5⟩ := manyTo_ok hf key
      obtain ⟨k1, k2, k3, k4⟩ := hf (show f l st bad = ((f l st bad).1, (f l st bad).2.1, 0, false) by rw [← g1, ← g2])
      subst h1
      refine ⟨k1, k2, by simp [g3], ?_, ?_⟩
      · rw [List.flatMap_cons, List.append_assoc, ← g4]; exact k3
      · intro x hx
        rcases List.mem_cons.1 hx with rfl | hx
        · exact k4
        · exact g5 x hx
    · rename_i hok
      simp only [Prod.mk.injEq] at h
      obtain ⟨_, _, h3, h4⟩ := h
      exact absurd (by rw [h4, h3]; rfl) hok
theorem manyR_ok {α : Type} {f : List UInt8 → Int → Bool → α × RS3} {enc : α → List UInt8} {fit : α → Prop} (hf : ∀ {l l' : List UInt8} {st : Int} {bad : Bool} {x : α}, f l st bad = (x, l', 0, false) → st = 0 ∧ bad = false ∧ l = enc x ++ l' ∧ fit x)
    {l l' : List UInt8} {st : Int} {bad : Bool} {xs : List α} (h : manyR f l st bad = (xs, l', 0, false)) : st = 0 ∧ bad = false ∧ l = UInt8.ofNat xs.length :: xs.flatMap enc ++ l' ∧ ∀ x ∈ xs, fit x := by
  unfold manyR at h
  obtain ⟨g1, g2, g3, g4, g5⟩ := manyTo_ok hf h
  obtain ⟨rfl, hl, e⟩ := numR_zero g1
  obtain ⟨k1, _⟩ := needB_false g2 g1
  rw [e] at g3 g4
  dsimp only at g3 g4
  refine ⟨rfl, k1, ?_, g5⟩
  have b1 := be_take hl
  rw [be_one, ← g3] at b1
  rw [show UInt8.ofNat xs.length :: xs.flatMap enc ++ l' = [UInt8.ofNat xs.length] ++ (xs.flatMap enc ++ l') from rfl, b1, ← g4, List.take_append_drop]
structure ContFit (c : Cont) : Prop where
  row : ∀ r ∈ c.rows, RowFit r
  kid : ∀ k ∈ c.kids, KidFit k
theorem contentR_ok {l l' : List UInt8} {c : Cont} (h : contentR l = (c, l', 0, false)) : contOk c = true ∧ l = contB c ++ l' ∧ ContFit c := by
  unfold contentR contE at h
  simp only [Prod.mk.injEq] at h
  obtain ⟨h1, h2, h3, h4⟩ := h
  generalize hm : contM (numR 1 l 0).1 (numR 1 l 0).2.1 (numR 1 l 0).2.2 (needB false (numR 1 l 0).2.2 (decide (((numR 1 l 0).1 : Int) ≤ 2))) = m at *
  obtain ⟨⟨rows, kids⟩, l2, st2, b2⟩ := m
  dsimp only at h1 h2 h3 h4
  subst h2; subst h3; subst h1
  obtain ⟨rfl, hok⟩ := needB_false h4 rfl
  refine ⟨hok, ?_⟩
  unfold contM at hm
  have hF := contOk_facts hok
  have hkind := hF.kind
  dsimp only at hkind
  split at hm
  · rename_i hokk
    rw [Bool.and_eq_true, Bool.not_eq_true'] at hokk
    obtain ⟨_, hs1⟩ := hokk
    have hs1 := of_decide_eq_true hs1
    obtain ⟨_, hl1, e1⟩ := numR_zero hs1
    have b1 := be_take hl1
    rw [be_one] at b1
    rw [e1] at hm hkind hok ⊢
    dsimp only at hm hkind hok ⊢
    generalize hx : unbe (List.take 1 l) = x at *
    have hl : l = UInt8.ofNat x :: l.drop 1 := by
      have : l = l.take 1 ++ l.drop 1 := (List.take_append_drop 1 l).symm
      rw [← b1] at this
      exact this
    split at hm
    · rename_i hx1
      simp only [Prod.mk.injEq] at hm
      obtain ⟨⟨h1, h2⟩, h3⟩ := hm
      subst h2
      have key : manyR rowR (l.drop 1) 0 (needB false 0 (decide ((x : Int) ≤ 2))) = (rows, l2, 0, false) := by rw [← h1, ← h3]
      obtain ⟨_, _, g3, g4⟩ := manyR_ok (enc := rowB) (fit := RowFit) (fun h => ⟨(rowR_ok h).1, (rowR_ok h).2.1, (rowR_ok h).2.2.2.1, (rowR_ok h).2.2.2.2⟩) key
      refine ⟨?_, ⟨g4, by simp⟩⟩
      have hc : contB ⟨x, rows, []⟩ = UInt8.ofNat x :: (UInt8.ofNat rows.length :: rows.flatMap rowB) := by
        unfold contB cntB
        rw [if_neg (by dsimp only; omega), tB_nat]; simp
      rw [hc, hl, g3]; rfl
    · split at hm
      · rename_i hx1 hx2
        simp only [Prod.mk.injEq] at hm
        obtain ⟨⟨h1, h2⟩, h3⟩ := hm
        subst h1
        have key : manyR kidRB (l.drop 1) 0 (needB false 0 (decide ((x : Int) ≤ 2))) = (kids, l2, 0, false) := by rw [← h2, ← h3]
        obtain ⟨_, _, g3, g4⟩ := manyR_ok (enc := kidB) (fit := KidFit) (fun h => kidRB_ok h) key
        refine ⟨?_, ⟨by simp, g4⟩⟩
        have hc : contB ⟨x, [], kids⟩ = UInt8.ofNat x :: (UInt8.ofNat kids.length :: kids.flatMap kidB) := by
          unfold contB cntB
          rw [if_neg (by dsimp only; omega), tB_nat]; simp
        rw [hc, hl, g3]; rfl
      · rename_i hx1 hx2
        simp only [Prod.mk.injEq] at hm
        obtain ⟨⟨h1, h2⟩, h3, _⟩ := hm
        subst h1; subst h2; subst h3
        have hx0 : (x : Int) = 0 := by
          rcases hkind with h | h | h
          · exact h.1
          · exact absurd (by omega) hx1
          · exact absurd (by omega) hx2
        refine ⟨?_, ⟨by simp, by simp⟩⟩
        have hc : contB ⟨x, [], []⟩ = [UInt8.ofNat x] := by
          unfold contB cntB
          rw [if_pos hx0, tB_nat]; simp
        rw [hc]; exact hl
  · rename_i hokk
    simp only [Prod.mk.injEq] at hm
    obtain ⟨⟨h1, h2⟩, h3, h4, h5⟩ := hm
    exact absurd (by rw [h5, h4]; rfl) hokk
theorem takenE_zero {bad : Bool} {st : Int} (h : takenE bad st = 0) : bad = false ∧ st = 0 := by
  cases bad
  · exact ⟨rfl, h⟩
  · simp [takenE] at h
theorem takeRow_ok {l : List UInt8} (h : (takeRowR l).2.2 = 0) : ∃ n : Nat, (takeRowR l).2.1 = n ∧ n ≤ l.length ∧ rowOk (takeRowR l).1 = true ∧ rowB (takeRowR l).1 = l.take n ∧ RowFit (takeRowR l).1 := by
  unfold takeRowR at h ⊢
  dsimp only at h ⊢
  obtain ⟨hb, hs⟩ := takenE_zero h
  generalize hr : rowR l 0 false = r at *
  obtain ⟨x, l', st, bad⟩ := r
  dsimp only at hb hs
  subst hb; subst hs
  obtain ⟨_, _, g1, g2, g3⟩ := rowR_ok hr
  have hl := congrArg List.length g2
  simp only [List.length_append] at hl
  refine ⟨(rowB x).length, ?_, by omega, ?_⟩
  · simp [takenN]; omega
  · simp only [Bool.false_or, ne_eq, not_true_eq_false, decide_false, Bool.false_eq_true, if_false]
    exact ⟨g1, by rw [g2]; simp, g3⟩
theorem takeCont_ok {l : List UInt8} (h : (takeContR l).2.2 = 0) : ∃ n : Nat, (takeContR l).2.1 = n ∧ n ≤ l.length ∧ contOk (takeContR l).1 = true ∧ contB (takeContR l).1 = l.take n ∧ ContFit (takeContR l).1 := by
  unfold takeContR at h ⊢
  dsimp only at h ⊢
  obtain ⟨hb, hs⟩ := takenE_zero h
  generalize hr : contentR l = r at *
  obtain ⟨x, l', st, bad⟩ := r
  dsimp only at hb hs
  subst hb; subst hs
  obtain ⟨g1, g2, g3⟩ := contentR_ok hr
  have hl := congrArg List.length g2
  simp only [List.length_append] at hl
  refine ⟨(contB x).length, ?_, by omega, ?_⟩
  · simp [takenN]; omega
  · simp only [Bool.false_or, ne_eq, not_true_eq_false, decide_false, Bool.false_eq_true, if_false]
    exact ⟨g1, by rw [g2]; simp, g3⟩
theorem takeCont_bad {l : List UInt8} (h : (takeContR l).2.2 ≠ 0) : (takeContR l).1 = ⟨0, [], []⟩ ∧ (takeContR l).2.1 = 0 := by
  unfold takeContR at h ⊢
  dsimp only at h ⊢
  generalize contentR l = r at *
  obtain ⟨x, l', st, bad⟩ := r
  dsimp only at h ⊢
  cases bad
  · have hs : st ≠ 0 := h
    simp [takenN, hs]
  · simp [takenN]
theorem contB_len {c : Cont} (h : contOk c = true) : (contB c).length ≤ 82 := by
  have hF := contOk_facts h
  have h1 := flatMap_le rowB 20 c.rows (fun x hx => rowB_le (hF.row x hx))
  have h2 := flatMap_le kidB 4 c.kids (fun x hx => Nat.le_of_eq (kidB_len x))
  have h3 : (cntB c).length ≤ 1 := by unfold cntB; split <;> simp
  have hk := hF.kind
  have hrl := hF.rl
  have hkl := hF.kl
  simp only [contB, List.length_cons, List.length_append]
  have er : c.rows = [] → (c.rows.flatMap rowB).length = 0 := fun e => by rw [e]; rfl
  have ek : c.kids = [] → (c.kids.flatMap kidB).length = 0 := fun e => by rw [e]; rfl
  rcases hk with ⟨_, hr, hk⟩ | ⟨_, hk⟩ | ⟨_, hr, _⟩
  · have := er hr; have := ek hk; omega
  · have := ek hk; omega
  · have := er hr; omega
end Go.Proofs.E

namespace Go.Proofs.E
open Go
set_option linter.unusedVariables false
set_option linter.unusedSimpArgs false
set_option linter.unusedSectionVars false
set_option maxRecDepth 4000
set_option maxHeartbeats 1000000
attribute [local irreducible] Yl TL TC TE Spec YSpec R1 Hp.le EnvLe TS TR YS Stays
theorem taken_spec (ρ : Hp) (a : Option Addr) (n c : Nat) (l : List UInt8) (h : SIn ρ u8c a n l) (hnc : n ≤ c) (hbig : n ≤ 9223372036854775807) :
    Spec Try.prog 3 [.slice a n c] ρ [] (fun v ρ' L' => v = .bool true ∧ ρ.le ρ' ∧ L' = []) := by
  obtain ⟨m, hm⟩ : ∃ m, m = min n 300 := ⟨_, rfl⟩
  have hmt : (min (n : Int) 300).toNat = m := by omega
  have hL := h.take (hi' := m) (by omega)
  refine spec_enter Try.func3 rfl rfl rfl fun u R => ?_
  simp only [argsE, List.cons_append, List.nil_append]
  repeat' (first | (refine tl_is (.func 15) ?_; refine qC rfl rfl (wakes06_spec _) ?_; rintro v ρ' L' hle ⟨rfl, hle1, rfl⟩ <;> (try simp only [List.cons_append, List.nil_append, List.append_eq])) | (refine i_op ?_; first | (refine iMv ?_; refine qMv ?_) | (refine iLd ?_; refine qLd ?_) | (refine iFa ?_; refine qFa ?_) | (refine iAd ?_; refine qAd ?_) | (refine iSb ?_; refine qSb ?_) | (refine iMl ?_; refine qMl ?_) | (refine iRm ?_; refine qRm ?_) | (refine iQu ?_; refine qQu ?_) | (refine iSr ?_; refine qSr ?_) | (refine iSh ?_; refine qSh ?_) | (refine iCm ?_; refine qCm ?_) | (refine iEx ?_; refine qEx ?_) | (refine iAs ?_; refine qAs ?_) | (refine iPk ?_; refine qPk ?_) | (refine iNc ?_; refine qNc ?_) | (refine iIa ?_; refine qIa ?_) | (refine iCv ?_; refine qCv ?_) | (refine iBi ?_; refine qBi ?_) | (refine iUn ?_; refine qUn ?_) | (refine iFl ?_; refine qFl ?_) | (refine iLu ?_; refine qLu ?_) | (refine iBu ?_; refine qBu ?_) | (refine iSl ?_; refine qSl ?_) | (refine iMf ?_; refine qMf ?_) | (refine iMi ?_; refine qMi ?_) | (refine iTa ?_; refine qTa ?_) | (refine iSt ?_; refine qSt ?_) | (refine iAl ?_; first | refine qAlA (fun _ => ?_) | refine qAlS (fun _ => ?_)) | (refine iBx ?_; first | refine qBxA (fun _ => ?_) | refine qBxS (fun _ => ?_)) | (refine iMm ?_; refine qMm (fun _ => ?_)) | (refine iBs ?_; refine qBs (fun _ => ?_)) | (refine i_gd ?_; first | refine qWant ?_ | refine qSkip ?_ | refine qSkip0 ?_ | refine qSkipU ?_)) | refine tl_nil ?_ | refine tc_seq ?_ | refine tc_region ?_ | refine te_seq ?_ | (refine i_cond ?_; first | refine qCt ?_ | refine qCf ?_) | refine tc_block ?_ | refine te_block_normal ?_ | refine te_block_ret ?_ | refine te_then_ret ?_ | refine te_block_hit ?_ | (refine i_miss ?_; refine qMiss ?_) | refine te_then_exit ?_ | refine tc_exit ?_ | refine tc_ret ?_ | refine tc_skip ?_ | refine tc_scope ?_ | refine te_scope_normal ?_ | refine te_scope_exit ?_ | refine te_scope_ret ?_ | refine tc_label ?_)
  rw [hmt]
  replace hL := hL.mono hle1
  generalize l.take m = L at *
  have hLl := hL.len
  have hm2 : m ≤ 300 := by omega
  have hm3 : m ≤ c := by omega
  clear hm hmt
  have htr := takeRow_spec _ a m c L hL (by omega)
  have htc := fun ρ h => takeCont_spec ρ a m c L h (by omega)
  have hro := takeRow_ok (l := L)
  have hco := takeCont_ok (l := L)
  have hcb := takeCont_bad (l := L)
  generalize takeRowR L = tr at *
  generalize takeContR L = tc at *
  obtain ⟨r, i, e⟩ := tr
  obtain ⟨k, j, f⟩ := tc
  dsimp only at htr htc hro hco hcb
  by_cases he : e = 0
  · obtain ⟨n1, rfl, hn1, hrok, hrb, hrf⟩ := hro he
    subst he
    have hre := fun ρ => rowE_spec ρ r hrf.id
    simp only [hrok, if_true] at hre
    by_cases hf : f = 0
    · obtain ⟨n2, rfl, hn2, hkok, hkb, hkf⟩ := hco hf
      subst hf
      have hce := fun ρ w h => contE_spec ρ w k h (fun r hr => (hkf.row r hr).id) (fun r hr => (hkf.kid r hr).id)
      simp only [hkok, if_true] at hce
      have h82 : n2 ≤ 82 := by
        have h1 := contB_len hkok
        rw [hkb, List.length_take] at h1
        have h2 := congrArg List.length hkb
        rw [List.length_take] at h2
        omega
      repeat' (first | (refine tl_is (.func 16) ?_; refine qC rfl rfl (htr) ?_; rintro v ρ' L' hle ⟨rfl, hle2, rfl⟩ <;> (try simp only [List.cons_append, List.nil_append, List.append_eq])) | (refine tl_is (.func 17) ?_; refine qC rfl rfl (hre _) ?_; rintro v ρ' L' hle ⟨hle3, ra, rn, rc, rfl, hrc, hrs, rfl⟩ <;> (try simp only [List.cons_append, List.nil_append, List.append_eq])) | (refine tl_is (.func 18) ?_; refine qC rfl rfl (bytesEq_spec _ _ _ _ _ _ _ _ _ hrs ((hL.mono (Hp.le_trans hle2 hle3)).take (hi' := n1) (by omega))) ?_; rintro v ρ' L' hle ⟨rfl, rfl, rfl⟩ <;> (try simp only [List.cons_append, List.nil_append, List.append_eq, hrb, decide_true])) | (refine tl_is (.func 19) ?_; refine qC rfl rfl (htc _ (hL.mono (Hp.le_trans hle2 hle3))) ?_; rintro v ρ' L' hle ⟨hle4, w, rfl, hC, rfl⟩ <;> (try simp only [List.cons_append, List.nil_append, List.append_eq])) | (refine tl_is (.func 20) ?_; refine qC rfl rfl (hce _ w hC) ?_; rintro v ρ' L' hle ⟨hle5, xa, xn, xc, rfl, hxc, hxs, rfl⟩ <;> (try simp only [List.cons_append, List.nil_append, List.append_eq])) | (refine tl_is (.func 18) ?_; refine qC rfl rfl (bytesEq_spec _ _ _ _ _ _ _ _ _ hxs ((hL.mono (Hp.le_trans hle2 (Hp.le_trans hle3 (Hp.le_trans hle4 hle5)))).take (hi' := n2) (by omega))) ?_; rintro v ρ' L' hle ⟨rfl, rfl, rfl⟩ <;> (try simp only [List.cons_append, List.nil_append, List.append_eq, hkb, decide_true])) | (refine i_op ?_; first | (refine iMv ?_; refine qMv ?_) | (refine iLd ?_; refine qLd ?_) | (refine iFa ?_; refine qFa ?_) | (refine iAd ?_; refine qAd ?_) | (refine iSb ?_; refine qSb ?_) | (refine iMl ?_; refine qMl ?_) | (refine iRm ?_; refine qRm ?_) | (refine iQu ?_; refine qQu ?_) | (refine iSr ?_; refine qSr ?_) | (refine iSh ?_; refine qSh ?_) | (refine iCm ?_; refine qCm ?_) | (refine iEx ?_; refine qEx ?_) | (refine iAs ?_; refine qAs ?_) | (refine iPk ?_; refine qPk ?_) | (refine iNc ?_; refine qNc ?_) | (refine iIa ?_; refine qIa ?_) | (refine iCv ?_; refine qCv ?_) | (refine iBi ?_; refine qBi ?_) | (refine iUn ?_; refine qUn ?_) | (refine iFl ?_; refine qFl ?_) | (refine iLu ?_; refine qLu ?_) | (refine iBu ?_; refine qBu ?_) | (refine iSl ?_; refine qSl ?_) | (refine iMf ?_; refine qMf ?_) | (refine iMi ?_; refine qMi ?_) | (refine iTa ?_; refine qTa ?_) | (refine iSt ?_; refine qSt ?_) | (refine iAl ?_; first | refine qAlA (fun _ => ?_) | refine qAlS (fun _ => ?_)) | (refine iBx ?_; first | refine qBxA (fun _ => ?_) | refine qBxS (fun _ => ?_)) | (refine iMm ?_; refine qMm (fun _ => ?_)) | (refine iBs ?_; refine qBs (fun _ => ?_)) | (refine i_gd ?_; first | refine qWant ?_ | refine qSkip ?_ | refine qSkip0 ?_ | refine qSkipU ?_)) | refine tl_nil ?_ | refine tc_seq ?_ | refine tc_region ?_ | refine te_seq ?_ | (refine i_cond ?_; first | refine qCt ?_ | refine qCf ?_) | refine tc_block ?_ | refine te_block_normal ?_ | refine te_block_ret ?_ | refine te_then_ret ?_ | refine te_block_hit ?_ | (refine i_miss ?_; refine qMiss ?_) | refine te_then_exit ?_ | refine tc_exit ?_ | refine tc_ret ?_ | refine tc_skip ?_ | refine tc_scope ?_ | refine te_scope_normal ?_ | refine te_scope_exit ?_ | refine te_scope_ret ?_ | refine tc_label ?_)
      have hfin := Hp.le_trans hle1 (Hp.le_trans hle2 (Hp.le_trans hle3 (Hp.le_trans hle4 hle5)))
      exact qE ⟨rfl, hfin, rfl⟩
    · obtain ⟨rfl, rfl⟩ := hcb hf
      repeat' (first | (refine tl_is (.func 16) ?_; refine qC rfl rfl (htr) ?_; rintro v ρ' L' hle ⟨rfl, hle2, rfl⟩ <;> (try simp only [List.cons_append, List.nil_append, List.append_eq])) | (refine tl_is (.func 17) ?_; refine qC rfl rfl (hre _) ?_; rintro v ρ' L' hle ⟨hle3, ra, rn, rc, rfl, hrc, hrs, rfl⟩ <;> (try simp only [List.cons_append, List.nil_append, List.append_eq])) | (refine tl_is (.func 18) ?_; refine qC rfl rfl (bytesEq_spec _ _ _ _ _ _ _ _ _ hrs ((hL.mono (Hp.le_trans hle2 hle3)).take (hi' := n1) (by omega))) ?_; rintro v ρ' L' hle ⟨rfl, rfl, rfl⟩ <;> (try simp only [List.cons_append, List.nil_append, List.append_eq, hrb, decide_true])) | (refine tl_is (.func 19) ?_; refine qC rfl rfl (htc _ (hL.mono (Hp.le_trans hle2 hle3))) ?_; rintro v ρ' L' hle ⟨hle4, w, rfl, hC, rfl⟩ <;> (try simp only [List.cons_append, List.nil_append, List.append_eq])) | (refine i_op ?_; first | (refine iMv ?_; refine qMv ?_) | (refine iLd ?_; refine qLd ?_) | (refine iFa ?_; refine qFa ?_) | (refine iAd ?_; refine qAd ?_) | (refine iSb ?_; refine qSb ?_) | (refine iMl ?_; refine qMl ?_) | (refine iRm ?_; refine qRm ?_) | (refine iQu ?_; refine qQu ?_) | (refine iSr ?_; refine qSr ?_) | (refine iSh ?_; refine qSh ?_) | (refine iCm ?_; refine qCm ?_) | (refine iEx ?_; refine qEx ?_) | (refine iAs ?_; refine qAs ?_) | (refine iPk ?_; refine qPk ?_) | (refine iNc ?_; refine qNc ?_) | (refine iIa ?_; refine qIa ?_) | (refine iCv ?_; refine qCv ?_) | (refine iBi ?_; refine qBi ?_) | (refine iUn ?_; refine qUn ?_) | (refine iFl ?_; refine qFl ?_) | (refine iLu ?_; refine qLu ?_) | (refine iBu ?_; refine qBu ?_) | (refine iSl ?_; refine qSl ?_) | (refine iMf ?_; refine qMf ?_) | (refine iMi ?_; refine qMi ?_) | (refine iTa ?_; refine qTa ?_) | (refine iSt ?_; refine qSt ?_) | (refine iAl ?_; first | refine qAlA (fun _ => ?_) | refine qAlS (fun _ => ?_)) | (refine iBx ?_; first | refine qBxA (fun _ => ?_) | refine qBxS (fun _ => ?_)) | (refine iMm ?_; refine qMm (fun _ => ?_)) | (refine iBs ?_; refine qBs (fun _ => ?_)) | (refine i_gd ?_; first | refine qWant ?_ | refine qSkip ?_ | refine qSkip0 ?_ | refine qSkipU ?_)) | refine tl_nil ?_ | refine tc_seq ?_ | refine tc_region ?_ | refine te_seq ?_ | (refine i_cond ?_; first | refine qCt ?_ | refine qCf ?_) | refine tc_block ?_ | refine te_block_normal ?_ | refine te_block_ret ?_ | refine te_then_ret ?_ | refine te_block_hit ?_ | (refine i_miss ?_; refine qMiss ?_) | refine te_then_exit ?_ | refine tc_exit ?_ | refine tc_ret ?_ | refine tc_skip ?_ | refine tc_scope ?_ | refine te_scope_normal ?_ | refine te_scope_exit ?_ | refine te_scope_ret ?_ | refine tc_label ?_)
      have hw1 := hC.r.len
      have hw2 := hC.k.len
      obtain ⟨wa, wn, wc, ka, kn, kc⟩ := w
      dsimp only at hw1 hw2
      dsimp only [contV]
      obtain rfl : wn = 0 := hw1.symm
      obtain rfl : kn = 0 := hw2.symm
      repeat' (first | (refine i_op ?_; first | (refine iMv ?_; refine qMv ?_) | (refine iLd ?_; refine qLd ?_) | (refine iFa ?_; refine qFa ?_) | (refine iAd ?_; refine qAd ?_) | (refine iSb ?_; refine qSb ?_) | (refine iMl ?_; refine qMl ?_) | (refine iRm ?_; refine qRm ?_) | (refine iQu ?_; refine qQu ?_) | (refine iSr ?_; refine qSr ?_) | (refine iSh ?_; refine qSh ?_) | (refine iCm ?_; refine qCm ?_) | (refine iEx ?_; refine qEx ?_) | (refine iAs ?_; refine qAs ?_) | (refine iPk ?_; refine qPk ?_) | (refine iNc ?_; refine qNc ?_) | (refine iIa ?_; refine qIa ?_) | (refine iCv ?_; refine qCv ?_) | (refine iBi ?_; refine qBi ?_) | (refine iUn ?_; refine qUn ?_) | (refine iFl ?_; refine qFl ?_) | (refine iLu ?_; refine qLu ?_) | (refine iBu ?_; refine qBu ?_) | (refine iSl ?_; refine qSl ?_) | (refine iMf ?_; refine qMf ?_) | (refine iMi ?_; refine qMi ?_) | (refine iTa ?_; refine qTa ?_) | (refine iSt ?_; refine qSt ?_) | (refine iAl ?_; first | refine qAlA (fun _ => ?_) | refine qAlS (fun _ => ?_)) | (refine iBx ?_; first | refine qBxA (fun _ => ?_) | refine qBxS (fun _ => ?_)) | (refine iMm ?_; refine qMm (fun _ => ?_)) | (refine iBs ?_; refine qBs (fun _ => ?_)) | (refine i_gd ?_; first | refine qWant ?_ | refine qSkip ?_ | refine qSkip0 ?_ | refine qSkipU ?_)) | refine tl_nil ?_ | refine tc_seq ?_ | refine tc_region ?_ | refine te_seq ?_ | (refine i_cond ?_; first | refine qCt ?_ | refine qCf ?_) | refine tc_block ?_ | refine te_block_normal ?_ | refine te_block_ret ?_ | refine te_then_ret ?_ | refine te_block_hit ?_ | (refine i_miss ?_; refine qMiss ?_) | refine te_then_exit ?_ | refine tc_exit ?_ | refine tc_ret ?_ | refine tc_skip ?_ | refine tc_scope ?_ | refine te_scope_normal ?_ | refine te_scope_exit ?_ | refine te_scope_ret ?_ | refine tc_label ?_)
      have hfin := Hp.le_trans hle1 (Hp.le_trans hle2 (Hp.le_trans hle3 hle4))
      exact qE ⟨rfl, hfin, rfl⟩
  · skip
    by_cases hf : f = 0
    · obtain ⟨n2, rfl, hn2, hkok, hkb, hkf⟩ := hco hf
      subst hf
      have hce := fun ρ w h => contE_spec ρ w k h (fun r hr => (hkf.row r hr).id) (fun r hr => (hkf.kid r hr).id)
      simp only [hkok, if_true] at hce
      have h82 : n2 ≤ 82 := by
        have h1 := contB_len hkok
        rw [hkb, List.length_take] at h1
        have h2 := congrArg List.length hkb
        rw [List.length_take] at h2
        omega
      repeat' (first | (refine tl_is (.func 16) ?_; refine qC rfl rfl (htr) ?_; rintro v ρ' L' hle ⟨rfl, hle2, rfl⟩ <;> (try simp only [List.cons_append, List.nil_append, List.append_eq])) | (refine tl_is (.func 19) ?_; refine qC rfl rfl (htc _ (hL.mono hle2)) ?_; rintro v ρ' L' hle ⟨hle4, w, rfl, hC, rfl⟩ <;> (try simp only [List.cons_append, List.nil_append, List.append_eq])) | (refine tl_is (.func 20) ?_; refine qC rfl rfl (hce _ w hC) ?_; rintro v ρ' L' hle ⟨hle5, xa, xn, xc, rfl, hxc, hxs, rfl⟩ <;> (try simp only [List.cons_append, List.nil_append, List.append_eq])) | (refine tl_is (.func 18) ?_; refine qC rfl rfl (bytesEq_spec _ _ _ _ _ _ _ _ _ hxs ((hL.mono (Hp.le_trans hle2 (Hp.le_trans hle4 hle5))).take (hi' := n2) (by omega))) ?_; rintro v ρ' L' hle ⟨rfl, rfl, rfl⟩ <;> (try simp only [List.cons_append, List.nil_append, List.append_eq, hkb, decide_true])) | (refine i_op ?_; first | (refine iMv ?_; refine qMv ?_) | (refine iLd ?_; refine qLd ?_) | (refine iFa ?_; refine qFa ?_) | (refine iAd ?_; refine qAd ?_) | (refine iSb ?_; refine qSb ?_) | (refine iMl ?_; refine qMl ?_) | (refine iRm ?_; refine qRm ?_) | (refine iQu ?_; refine qQu ?_) | (refine iSr ?_; refine qSr ?_) | (refine iSh ?_; refine qSh ?_) | (refine iCm ?_; refine qCm ?_) | (refine iEx ?_; refine qEx ?_) | (refine iAs ?_; refine qAs ?_) | (refine iPk ?_; refine qPk ?_) | (refine iNc ?_; refine qNc ?_) | (refine iIa ?_; refine qIa ?_) | (refine iCv ?_; refine qCv ?_) | (refine iBi ?_; refine qBi ?_) | (refine iUn ?_; refine qUn ?_) | (refine iFl ?_; refine qFl ?_) | (refine iLu ?_; refine qLu ?_) | (refine iBu ?_; refine qBu ?_) | (refine iSl ?_; refine qSl ?_) | (refine iMf ?_; refine qMf ?_) | (refine iMi ?_; refine qMi ?_) | (refine iTa ?_; refine qTa ?_) | (refine iSt ?_; refine qSt ?_) | (refine iAl ?_; first | refine qAlA (fun _ => ?_) | refine qAlS (fun _ => ?_)) | (refine iBx ?_; first | refine qBxA (fun _ => ?_) | refine qBxS (fun _ => ?_)) | (refine iMm ?_; refine qMm (fun _ => ?_)) | (refine iBs ?_; refine qBs (fun _ => ?_)) | (refine i_gd ?_; first | refine qWant ?_ | refine qSkip ?_ | refine qSkip0 ?_ | refine qSkipU ?_)) | refine tl_nil ?_ | refine tc_seq ?_ | refine tc_region ?_ | refine te_seq ?_ | (refine i_cond ?_; first | refine qCt ?_ | refine qCf ?_) | refine tc_block ?_ | refine te_block_normal ?_ | refine te_block_ret ?_ | refine te_then_ret ?_ | refine te_block_hit ?_ | (refine i_miss ?_; refine qMiss ?_) | refine te_then_exit ?_ | refine tc_exit ?_ | refine tc_ret ?_ | refine tc_skip ?_ | refine tc_scope ?_ | refine te_scope_normal ?_ | refine te_scope_exit ?_ | refine te_scope_ret ?_ | refine tc_label ?_)
      have hfin := Hp.le_trans hle1 (Hp.le_trans hle2 (Hp.le_trans hle4 hle5))
      exact qE ⟨rfl, hfin, rfl⟩
    · obtain ⟨rfl, rfl⟩ := hcb hf
      repeat' (first | (refine tl_is (.func 16) ?_; refine qC rfl rfl (htr) ?_; rintro v ρ' L' hle ⟨rfl, hle2, rfl⟩ <;> (try simp only [List.cons_append, List.nil_append, List.append_eq])) | (refine tl_is (.func 19) ?_; refine qC rfl rfl (htc _ (hL.mono hle2)) ?_; rintro v ρ' L' hle ⟨hle4, w, rfl, hC, rfl⟩ <;> (try simp only [List.cons_append, List.nil_append, List.append_eq])) | (refine i_op ?_; first | (refine iMv ?_; refine qMv ?_) | (refine iLd ?_; refine qLd ?_) | (refine iFa ?_; refine qFa ?_) | (refine iAd ?_; refine qAd ?_) | (refine iSb ?_; refine qSb ?_) | (refine iMl ?_; refine qMl ?_) | (refine iRm ?_; refine qRm ?_) | (refine iQu ?_; refine qQu ?_) | (refine iSr ?_; refine qSr ?_) | (refine iSh ?_; refine qSh ?_) | (refine iCm ?_; refine qCm ?_) | (refine iEx ?_; refine qEx ?_) | (refine iAs ?_; refine qAs ?_) | (refine iPk ?_; refine qPk ?_) | (refine iNc ?_; refine qNc ?_) | (refine iIa ?_; refine qIa ?_) | (refine iCv ?_; refine qCv ?_) | (refine iBi ?_; refine qBi ?_) | (refine iUn ?_; refine qUn ?_) | (refine iFl ?_; refine qFl ?_) | (refine iLu ?_; refine qLu ?_) | (refine iBu ?_; refine qBu ?_) | (refine iSl ?_; refine qSl ?_) | (refine iMf ?_; refine qMf ?_) | (refine iMi ?_; refine qMi ?_) | (refine iTa ?_; refine qTa ?_) | (refine iSt ?_; refine qSt ?_) | (refine iAl ?_; first | refine qAlA (fun _ => ?_) | refine qAlS (fun _ => ?_)) | (refine iBx ?_; first | refine qBxA (fun _ => ?_) | refine qBxS (fun _ => ?_)) | (refine iMm ?_; refine qMm (fun _ => ?_)) | (refine iBs ?_; refine qBs (fun _ => ?_)) | (refine i_gd ?_; first | refine qWant ?_ | refine qSkip ?_ | refine qSkip0 ?_ | refine qSkipU ?_)) | refine tl_nil ?_ | refine tc_seq ?_ | refine tc_region ?_ | refine te_seq ?_ | (refine i_cond ?_; first | refine qCt ?_ | refine qCf ?_) | refine tc_block ?_ | refine te_block_normal ?_ | refine te_block_ret ?_ | refine te_then_ret ?_ | refine te_block_hit ?_ | (refine i_miss ?_; refine qMiss ?_) | refine te_then_exit ?_ | refine tc_exit ?_ | refine tc_ret ?_ | refine tc_skip ?_ | refine tc_scope ?_ | refine te_scope_normal ?_ | refine te_scope_exit ?_ | refine te_scope_ret ?_ | refine tc_label ?_)
      have hw1 := hC.r.len
      have hw2 := hC.k.len
      obtain ⟨wa, wn, wc, ka, kn, kc⟩ := w
      dsimp only at hw1 hw2
      dsimp only [contV]
      obtain rfl : wn = 0 := hw1.symm
      obtain rfl : kn = 0 := hw2.symm
      repeat' (first | (refine i_op ?_; first | (refine iMv ?_; refine qMv ?_) | (refine iLd ?_; refine qLd ?_) | (refine iFa ?_; refine qFa ?_) | (refine iAd ?_; refine qAd ?_) | (refine iSb ?_; refine qSb ?_) | (refine iMl ?_; refine qMl ?_) | (refine iRm ?_; refine qRm ?_) | (refine iQu ?_; refine qQu ?_) | (refine iSr ?_; refine qSr ?_) | (refine iSh ?_; refine qSh ?_) | (refine iCm ?_; refine qCm ?_) | (refine iEx ?_; refine qEx ?_) | (refine iAs ?_; refine qAs ?_) | (refine iPk ?_; refine qPk ?_) | (refine iNc ?_; refine qNc ?_) | (refine iIa ?_; refine qIa ?_) | (refine iCv ?_; refine qCv ?_) | (refine iBi ?_; refine qBi ?_) | (refine iUn ?_; refine qUn ?_) | (refine iFl ?_; refine qFl ?_) | (refine iLu ?_; refine qLu ?_) | (refine iBu ?_; refine qBu ?_) | (refine iSl ?_; refine qSl ?_) | (refine iMf ?_; refine qMf ?_) | (refine iMi ?_; refine qMi ?_) | (refine iTa ?_; refine qTa ?_) | (refine iSt ?_; refine qSt ?_) | (refine iAl ?_; first | refine qAlA (fun _ => ?_) | refine qAlS (fun _ => ?_)) | (refine iBx ?_; first | refine qBxA (fun _ => ?_) | refine qBxS (fun _ => ?_)) | (refine iMm ?_; refine qMm (fun _ => ?_)) | (refine iBs ?_; refine qBs (fun _ => ?_)) | (refine i_gd ?_; first | refine qWant ?_ | refine qSkip ?_ | refine qSkip0 ?_ | refine qSkipU ?_)) | refine tl_nil ?_ | refine tc_seq ?_ | refine tc_region ?_ | refine te_seq ?_ | (refine i_cond ?_; first | refine qCt ?_ | refine qCf ?_) | refine tc_block ?_ | refine te_block_normal ?_ | refine te_block_ret ?_ | refine te_then_ret ?_ | refine te_block_hit ?_ | (refine i_miss ?_; refine qMiss ?_) | refine te_then_exit ?_ | refine tc_exit ?_ | refine tc_ret ?_ | refine tc_skip ?_ | refine tc_scope ?_ | refine te_scope_normal ?_ | refine te_scope_exit ?_ | refine te_scope_ret ?_ | refine tc_label ?_)
      have hfin := Hp.le_trans hle1 (Hp.le_trans hle2 hle4)
      exact qE ⟨rfl, hfin, rfl⟩
end Go.Proofs.E

namespace Go.Proofs.E
open Go Go.RowKit
set_option linter.unusedVariables false
set_option linter.unusedSimpArgs false
set_option linter.unusedSectionVars false
/-! ## what the laws of this chapter are handed -/
theorem opn_u8 {H : Type} {enc : TypeId × Value → H} {w : World} : Opn enc Try.prog w 5 (fun cs (b : UInt8) => cs = [u8c b]) := fun fuel cs x h => by
  obtain ⟨n, rfl, h1, h2⟩ := opn_int Try.underlying5 fuel cs x h
  simp only [lo, hi] at h1 h2
  refine ⟨UInt8.ofNat n.toNat, ?_⟩
  have : ((UInt8.ofNat n.toNat).toNat : Int) = n := by simp [UInt8.toNat_ofNat]; omega
  simp only [u8c, this]
theorem opn_bytes {H : Type} {enc : TypeId × Value → H} {w : World} : Opn enc Try.prog w 22 (RS (hpOf w) 1 (fun cs (b : UInt8) => cs = [u8c b])) :=
  opn_slice Try.underlying22 (by kernel_rfl) (by decide) opn_u8
theorem sIn_of {ρ : Hp} {cs : List Value} {s : Option Addr × Nat × Nat × List UInt8} (h : RS ρ 1 (fun cs (b : UInt8) => cs = [u8c b]) cs s) : SIn ρ u8c s.1 s.2.1 s.2.2.2 ∧ s.2.1 ≤ s.2.2.1 ∧ s.2.1 ≤ 9223372036854775807 := by
  obtain ⟨a, n, c, ks⟩ := s
  obtain ⟨h1, h2, h3, h4, h5⟩ := h
  dsimp only at h1 h2 h3 h4 h5 ⊢
  refine ⟨⟨h4, ?_⟩, h2, by omega⟩
  by_cases h0 : n = 0
  · exact .inl h0
  · right
    obtain ⟨b, off, C, T, fr, e1, e2, e3, e4⟩ := h5 0 (by omega)
    have same : ∀ i (h : i < ks.length), off + i * 1 + 1 ≤ C.length ∧ (C.drop (off + i * 1)).take 1 = [u8c ks[i]] := fun i hi => by
      obtain ⟨b', off', C', T', fr', f1, f2, f3, f4⟩ := h5 i hi
      rw [e1] at f1
      cases f1
      rw [e2] at f2
      cases f2
      exact ⟨f3, f4⟩
    refine ⟨b, off, C, T, fr, e1, e2, ?_⟩
    apply List.ext_getElem
    · have := (same (n - 1) (by omega)).1
      simp; omega
    · intro i h1 h2
      have hi : i < ks.length := by simpa using h2
      have h3 := (same i hi).2
      have h4 := congrArg (fun l : List Value => l[0]?) h3
      simp only [List.getElem?_cons_zero] at h4
      rw [List.getElem?_take_of_lt (by omega), List.getElem?_drop] at h4
      have h5 : C[off + i]? = some (u8c ks[i]) := by simpa using h4
      simp only [List.getElem_take, List.getElem_drop, List.getElem_map]
      exact (List.getElem?_eq_some_iff.1 h5).2
end Go.Proofs.E

namespace Go.Proofs.Ytkgenlmcdbafmaa.CodecTakenLaw
open Go Go.ChangeShapes Go.WideShapes Go.ChangeAt Go.RowKit Go.Proofs.E
set_option linter.unusedVariables false

theorem own : ownKnob Try.prog.godebug = none := by kernel_rfl
theorem laidOut : laidOutB Try.prog = true := by kernel_rfl

set_option maxRecDepth 100000 in
theorem lifted (os : Os) (started : os.Started) (H : Type) (enc : TypeId × Value → H) :
    ReturnsInHanded {} Try.checked os 3 .any (Rows.codecTakenSpec.pre6 enc Try.prog Try.f3 Rows.codecTakenRow.domain false) (Rows.codecTakenSpec.post enc Try.prog Try.f3 false true false false) := by
  refine returnsInHanded_of_change_sized (C := Try.checked) own started (by kernel_rfl) Try.func3
    (ChangeSpec.witness6 (enc := enc) (C := Try.checked) false ⟨#[], #[.slice none 0 0], []⟩ 8 (by kernel_rfl) (by kernel_rfl) (by kernel_rfl) (by kernel_rfl)) ?_
  intro W base args ds gs before hval0 hW hcnd hsz0 _
  have hval : ∀ (j : Nat) t v, Try.f3.params[j]? = some t → args[j]? = some v → Value.okWide Try.prog W .any base t v := hval0
  have hW' := hW
  obtain ⟨p, q, hA0, hV, rfl, hfz, hnd⟩ := hW
  have hA : DataW.TrodAll enc Try.prog W 0 (fun _ => true) true Try.f3.params.toList args.toList ds p := hA0
  have hsz : (DataW.weightsEach Try.prog (Try.f3.params.toList ++ Rows.codecTakenSpec.plain.varTypes Try.prog) (ds ++ gs)).all (· ≤ reachBytes) = true := hsz0
  rw [Try.params3] at hA hval hsz
  obtain ⟨v0, vs0, d0, ds0, p0, q0, hargs, rfl, rfl, h0, r0⟩ := trodAll_cons hA
  obtain ⟨rfl, rfl, rfl⟩ := trodAll_nil r0
  obtain rfl : args = #[v0] := by cases args; simp_all
  obtain ⟨rfl, rfl⟩ := trodVars_none hV
  have k0 := h0
  have lt0 : ∀ x ∈ p0, x.block < W.heap.size := by obtain ⟨m, hm⟩ := k0; exact DataW.trod_lt m _ _ _ hm
  obtain ⟨a0, n0, c0, rfl⟩ := okWide_slice Try.underlying22 (hval 0 22 v0 rfl rfl)
  have b0 := top_slice hsz (j := 0) rfl rfl Try.underlying22 k0 rfl
  have bb0 : Try.prog.bytesOf 5 = 1 := by kernel_rfl
  rw [bb0] at b0
  simp only [reachBytes] at b0
  obtain ⟨s0, e0⟩ := opn_bytes _ _ _ h0.choose_spec
  obtain ⟨⟨y0, m0, z0, x0⟩, ec0⟩ : ∃ s, s = s0 := ⟨s0, rfl⟩
  subst ec0
  have ec0 := e0.cells
  simp only [Value.cells, List.cons.injEq, Value.slice.injEq, and_true] at ec0
  obtain ⟨rfl, rfl, rfl⟩ := ec0
  clear hA0 hval0
  obtain ⟨hS, hc, hb⟩ := sIn_of e0
  refine (Spec.law (taken_spec (hpOf W) a0 n0 c0 x0 hS hc hb)).mono fun e W' ⟨he, bel⟩ => ?_
  subst he
  exact ⟨_, rfl, _, _, _, [], _, [], hW', trodAll_mk1 (shut_bool Try.underlying4 _), (trodAll_cons_mk (Below.trod laidOut (by kernel_rfl) (of_decide_eq_true (by kernel_rfl)) k0 bel lt0) trodAll_mk0), rfl, bel.frame _, fun h => by cases h⟩

theorem over : Rows.codecTakenRow.holds Try.pinned (OpenSpec.ofChange Rows.codecTakenSpec) :=
  OpenClaim.holds_of_wide 3 Try.f3 rfl rfl rfl rfl rfl rfl rfl ⟨rfl, rfl, rfl, rfl, rfl⟩ rfl rfl rfl rfl rfl (by kernel_rfl) Try.func3 (by kernel_rfl)
    (of_decide_eq_true (by kernel_rfl)) (by unfold Func.isWrapper; first | (rw [if_pos (by decide +kernel)]; kernel_rfl) | (rw [if_neg (by decide +kernel)]; exact ⟨rfl, rfl⟩))
    (fun os started H enc _ => lifted os started H enc)

theorem proved : Rows.CodecTakenSaid := over
end Go.Proofs.Ytkgenlmcdbafmaa.CodecTakenLaw

