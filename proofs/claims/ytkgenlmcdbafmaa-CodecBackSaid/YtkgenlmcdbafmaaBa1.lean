/- CodecBack holds of every content and every row of bytes (no condition): contents and rows are taken back from their bytes, whatever stands behind; less is too short. Part 1 of 1. -/
import Derived.Test.YtkgenlmcdbafmaaB6
import Derived.Test.YtkgenlmcdbafmaaRows
namespace Go.Proofs.E
open Go
set_option linter.unusedVariables false
set_option linter.unusedSimpArgs false
set_option linter.unusedSectionVars false
set_option maxRecDepth 4000
set_option maxHeartbeats 1000000
attribute [local irreducible] Yl TL TC TE Spec YSpec R1 Hp.le EnvLe TS TR YS Stays
/-! ## what is taken is what its bytes are -/
theorem numR_zero {k : Nat} {l : List UInt8} {st : Int} (h : (numR k l st).2.2 = 0) : st = 0 ∧ k ≤ l.length ∧ numR k l st = (unbe (l.take k), l.drop k, 0) := by
  unfold numR at h ⊢
  by_cases hs : st ≠ 0
  · rw [if_pos hs] at h; exact absurd h hs
  · have h0 : st = 0 := by simpa using hs
    rw [if_neg hs] at h ⊢
    by_cases hl : l.length < k
    · rw [if_pos hl] at h; simp at h
    · rw [if_neg hl]; exact ⟨h0, by omega, rfl⟩
theorem rawR_zero {k : Nat} {l : List UInt8} {st : Int} (h : (rawR k l st).2.2 = 0) : st = 0 ∧ k ≤ l.length ∧ rawR k l st = (l.take k, l.drop k, 0) := by
  unfold rawR at h ⊢
  by_cases hs : st ≠ 0
  · rw [if_pos hs] at h; exact absurd h hs
  · have h0 : st = 0 := by simpa using hs
    rw [if_neg hs] at h ⊢
    by_cases hl : l.length < k
    · rw [if_pos hl] at h; simp at h
    · rw [if_neg hl]; exact ⟨h0, by omega, rfl⟩
theorem be_take {k : Nat} {l : List UInt8} (h : k ≤ l.length) : be k (unbe (l.take k)) = l.take k := by
  have := be_unbe (l.take k)
  rwa [List.length_take, Nat.min_eq_left h] at this
theorem be_one (x : Nat) : be 1 x = [UInt8.ofNat x] := by simp [be]
theorem tB_nat (x : Nat) : tB (x : Int) = UInt8.ofNat x := rfl
theorem vN_i64N {x : Nat} (h : x < 18446744073709551616) : vN (i64N x) = x := by
  have h1 : IntKind.u64.wrap (i64N x) = x := by
    unfold i64N
    simp only [IntKind.wrap, IntKind.bits, IntKind.signed, Bool.true_and, Bool.false_and, Bool.false_eq_true, if_false]
    split <;> simp_all <;> omega
  simp [vN, h1]
theorem i64N_vN {v : Int} (h : -9223372036854775808 ≤ v ∧ v ≤ 9223372036854775807) : i64N (vN v) = v := by
  unfold i64N
  rw [← vN_eq]
  simp only [IntKind.wrap, IntKind.bits, IntKind.signed, Bool.true_and, Bool.false_and, Bool.false_eq_true, if_false]
  split <;> simp_all <;> omega
theorem needB_false {bad : Bool} {st : Int} {is : Bool} (h : needB bad st is = false) (hs : st = 0) : bad = false ∧ is = true := by
  subst hs
  cases bad <;> cases is <;> simp_all [needB]
structure RowFit (r : Row) : Prop where
  id : r.id < 65536
  val : -9223372036854775808 ≤ r.val ∧ r.val ≤ 9223372036854775807
theorem i64N_fit (x : Nat) : -9223372036854775808 ≤ i64N x ∧ i64N x ≤ 9223372036854775807 := by
  unfold i64N
  simp only [IntKind.wrap, IntKind.bits, IntKind.signed, Bool.true_and]
  split <;> simp_all <;> omega
theorem rowR_ok {l l' : List UInt8} {st : Int} {bad : Bool} {r : Row} (h : rowR l st bad = (r, l', 0, false)) : st = 0 ∧ bad = false ∧ rowOk r = true ∧ l = rowB r ++ l' ∧ RowFit r := by
  unfold rowR at h
  dsimp only at h
  split at h
  · rename_i hok
    rw [Bool.and_eq_true, Bool.not_eq_true'] at hok
    obtain ⟨hb1, hs1⟩ := hok
    have hs1 := of_decide_eq_true hs1
    obtain ⟨rfl, hl1, e1⟩ := numR_zero hs1
    obtain ⟨rfl, ht⟩ := needB_false hb1 hs1
    split at h
    · rename_i hok2
      rw [Bool.and_eq_true, Bool.not_eq_true'] at hok2
      obtain ⟨hb2, hs4⟩ := hok2
      have hs4 := of_decide_eq_true hs4
      obtain ⟨hs3, hl4, e4⟩ := numR_zero hs4
      obtain ⟨hs2, hl3, e3⟩ := numR_zero hs3
      obtain ⟨hs1', hl2, e2⟩ := numR_zero hs2
      obtain ⟨_, hn⟩ := needB_false hb2 hs4
      have ht := of_decide_eq_true ht
      have hn := of_decide_eq_true hn
      simp only [Prod.mk.injEq] at h
      obtain ⟨h1, h2, h3, h4⟩ := h
      obtain ⟨_, hl5, e5⟩ := rawR_zero h3
      subst h1; subst h2
      rw [e5]
      simp only [e4] at hl5 hn e5 ⊢
      simp only [e3] at hl4 hl5 hn e5 ⊢
      simp only [e2] at hl3 hl4 hl5 hn e5 ⊢
      simp only [e1] at hl2 hl3 hl4 hl5 hn ht e5 ⊢
      have b1 := be_take hl1
      have b2 := be_take hl2
      have b3 := be_take hl3
      have b4 := be_take hl4
      rw [be_one] at b1 b4
      have u2 := unbe_lt ((l.drop 1).take 2)
      have u3 := unbe_lt (((l.drop 1).drop 2).take 8)
      rw [List.length_take, Nat.min_eq_left hl2] at u2
      rw [List.length_take, Nat.min_eq_left hl3] at u3
      have hlen : (List.take (unbe (List.take 1 (List.drop 8 (List.drop 2 (List.drop 1 l))))) (List.drop 1 (List.drop 8 (List.drop 2 (List.drop 1 l))))).length = unbe (List.take 1 (List.drop 8 (List.drop 2 (List.drop 1 l)))) := by rw [List.length_take, Nat.min_eq_left hl5]
      refine ⟨by trivial, by trivial, ?_, ?_, ⟨by dsimp only; omega, i64N_fit _⟩⟩
      · unfold rowOk
        dsimp only
        rw [hlen]
        exact decide_eq_true ⟨⟨by omega, by omega⟩, by omega⟩
      · unfold rowB keyB
        dsimp only
        rw [hlen, vN_i64N (by omega), b3, b2, tB_nat]
        have c1 : UInt8.ofNat (unbe (List.take 1 l)) :: (List.take 2 (List.drop 1 l)) = List.take 1 l ++ List.take 2 (List.drop 1 l) := by
          show [UInt8.ofNat (unbe (List.take 1 l))] ++ _ = _
          rw [b1]
        rw [c1]
        have c4 : ∀ X : List UInt8, UInt8.ofNat (unbe (List.take 1 (List.drop 8 (List.drop 2 (List.drop 1 l))))) :: X = List.take 1 (List.drop 8 (List.drop 2 (List.drop 1 l))) ++ X := fun X => by
          show [UInt8.ofNat (unbe (List.take 1 (List.drop 8 (List.drop 2 (List.drop 1 l)))))] ++ X = _
          rw [b4]
        rw [c4]
        simp only [List.append_assoc, List.take_append_drop]
    · rename_i hok2
      simp only [Prod.mk.injEq] at h
      obtain ⟨_, _, h3, h4⟩ := h
      exact absurd (by rw [h4, h3]; rfl) hok2
  · rename_i hok
    simp only [Prod.mk.injEq] at h
    obtain ⟨_, _, h3, h4⟩ := h
    exact absurd (by rw [h4, h3]; rfl) hok
structure KidFit (k : Kid) : Prop where
  id : k.id < 65536
  t : 0 ≤ k.t ∧ k.t < 256
  page : 0 ≤ k.page ∧ k.page < 256
theorem kidRB_ok {l l' : List UInt8} {st : Int} {bad : Bool} {r : Kid} (h : kidRB l st bad = (r, l', 0, false)) : st = 0 ∧ bad = false ∧ l = kidB r ++ l' ∧ KidFit r := by
  unfold kidRB kidR at h
  dsimp only at h
  simp only [Prod.mk.injEq] at h
  obtain ⟨h1, h2, h3, h4⟩ := h
  obtain ⟨hs2, hl3, e3⟩ := numR_zero h3
  obtain ⟨hs1, hl2, e2⟩ := numR_zero hs2
  obtain ⟨rfl, hl1, e1⟩ := numR_zero hs1
  subst h1; subst h2
  simp only [e3]
  simp only [e2] at hl3 ⊢
  simp only [e1] at hl2 hl3 ⊢
  have b1 := be_take hl1
  have b2 := be_take hl2
  have b3 := be_take hl3
  rw [be_one] at b1 b3
  have u1 := unbe_lt (l.take 1)
  have u2 := unbe_lt ((l.drop 1).take 2)
  have u3 := unbe_lt (((l.drop 1).drop 2).take 1)
  rw [List.length_take, Nat.min_eq_left hl1] at u1
  rw [List.length_take, Nat.min_eq_left hl2] at u2
  rw [List.length_take, Nat.min_eq_left hl3] at u3
  refine ⟨by trivial, h4, ?_, ⟨by dsimp only; omega, by dsimp only; omega, by dsimp only; omega⟩⟩
  unfold kidB keyB
  dsimp only
  rw [b2, tB_nat, tB_nat]
  have c1 : ∀ X : List UInt8, UInt8.ofNat (unbe (List.take 1 l)) :: X = List.take 1 l ++ X := fun X => by
    show [UInt8.ofNat (unbe (List.take 1 l))] ++ X = _
    rw [b1]
  rw [c1, b3]
  simp only [List.append_assoc, List.take_append_drop]
theorem manyTo_ok {α : Type} {f : List UInt8 → Int → Bool → α × RS3} {enc : α → List UInt8} {fit : α → Prop} (hf : ∀ {l l' : List UInt8} {st : Int} {bad : Bool} {x : α}, f l st bad = (x, l', 0, false) → st = 0 ∧ bad = false ∧ l = enc x ++ l' ∧ fit x) :
    ∀ {n : Nat} {l l' : List UInt8} {st : Int} {bad : Bool} {xs : List α}, manyTo f n l st bad = (xs, l', 0, false) → st = 0 ∧ bad = false ∧ xs.length = n ∧ l = xs.flatMap enc ++ l' ∧ ∀ x ∈ xs, fit x
  | 0, l, l', st, bad, xs, h => by
    rw [manyTo] at h
    simp only [Prod.mk.injEq] at h
    obtain ⟨rfl, rfl, rfl, rfl⟩ := h
    exact ⟨rfl, rfl, rfl, by simp, by simp⟩
  | n + 1, l, l', st, bad, xs, h => by
    rw [manyTo] at h
    split at h
    · simp only [Prod.mk.injEq] at h
      obtain ⟨h1, h2⟩ := h
      have key : manyTo f n (f l st bad).2.1 (f l st bad).2.2.1 (f l st bad).2.2.2 = ((manyTo f n (f l st bad).2.1 (f l st bad).2.2.1 (f l st bad).2.2.2).1, l', 0, false) := by rw [← h2]
      obtain ⟨g1, g2, g3, g4, g5⟩ := manyTo_ok hf key
      obtain ⟨k1, k2, k3, k4⟩ := hf (show f l st bad = ((f l st bad).1, (f l st bad).2.1, 0, false) by rw [← g1, ← g2])
      subst h1
      refine ⟨k1, k2, by simp [g3], ?_, ?_⟩
      · rw [List.flatMap_cons, List.append_assoc, ← g4]; exact k3
      · intro x hx
        rcases List.mem_cons.1 hx with rfl | hx
        · exact k4
        · exact g5 x hx
    · rename_i hok
      simp only [Prod.mk.injEq] at h
      obtain ⟨_, _, h3, h4⟩ := h
      exact absurd (by rw [h4, h3]; rfl) hok
theorem manyR_ok {α : Type} {f : List UInt8 → Int → Bool → α × RS3} {enc : α → List UInt8} {fit : α → Prop} (hf : ∀ {l l' : List UInt8} {st : Int} {bad : Bool} {x : α}, f l st bad = (x, l', 0, false) → st = 0 ∧ bad = false ∧ l = enc x ++ l' ∧ fit x)
    {l l' : List UInt8} {st : Int} {bad : Bool} {xs : List α} (h : manyR f l st bad = (xs, l', 0, false)) : st = 0 ∧ bad = false ∧ l = UInt8.ofNat xs.length :: xs.flatMap enc ++ l' ∧ ∀ x ∈ xs, fit x := by
  unfold manyR at h
  obtain ⟨g1, g2, g3, g4, g5⟩ := manyTo_ok hf h
  obtain ⟨rfl, hl, e⟩ := numR_zero g1
  obtain ⟨k1, _⟩ := needB_false g2 g1
  rw [e] at g3 g4
  dsimp only at g3 g4
  refine ⟨rfl, k1, ?_, g5⟩
  have b1 := be_take hl
  rw [be_one, ← g3] at b1
  rw [show UInt8.ofNat xs.length :: xs.flatMap enc ++ l' = [UInt8.ofNat xs.length] ++ (xs.flatMap enc ++ l') from rfl, b1, ← g4, List.take_append_drop]
structure ContFit (c : Cont) : Prop where
  row : ∀ r ∈ c.rows, RowFit r
  kid : ∀ k ∈ c.kids, KidFit k
theorem contentR_ok {l l' : List UInt8} {c : Cont} (h : contentR l = (c, l', 0, false)) : contOk c = true ∧ l = contB c ++ l' ∧ ContFit c := by
  unfold contentR contE at h
  simp only [Prod.mk.injEq] at h
  obtain ⟨h1, h2, h3, h4⟩ := h
  generalize hm : contM (numR 1 l 0).1 (numR 1 l 0).2.1 (numR 1 l 0).2.2 (needB false (numR 1 l 0).2.2 (decide (((numR 1 l 0).1 : Int) ≤ 2))) = m at *
  obtain ⟨⟨rows, kids⟩, l2, st2, b2⟩ := m
  dsimp only at h1 h2 h3 h4
  subst h2; subst h3; subst h1
  obtain ⟨rfl, hok⟩ := needB_false h4 rfl
  refine ⟨hok, ?_⟩
  unfold contM at hm
  have hF := contOk_facts hok
  have hkind := hF.kind
  dsimp only at hkind
  split at hm
  · rename_i hokk
    rw [Bool.and_eq_true, Bool.not_eq_true'] at hokk
    obtain ⟨_, hs1⟩ := hokk
    have hs1 := of_decide_eq_true hs1
    obtain ⟨_, hl1, e1⟩ := numR_zero hs1
    have b1 := be_take hl1
    rw [be_one] at b1
    rw [e1] at hm hkind hok ⊢
    dsimp only at hm hkind hok ⊢
    generalize hx : unbe (List.take 1 l) = x at *
    have hl : l = UInt8.ofNat x :: l.drop 1 := by
      have : l = l.take 1 ++ l.drop 1 := (List.take_append_drop 1 l).symm
      rw [← b1] at this
      exact this
    split at hm
    · rename_i hx1
      simp only [Prod.mk.injEq] at hm
      obtain ⟨⟨h1, h2⟩, h3⟩ := hm
      subst h2
      have key : manyR rowR (l.drop 1) 0 (needB false 0 (decide ((x : Int) ≤ 2))) = (rows, l2, 0, false) := by rw [← h1, ← h3]
      obtain ⟨_, _, g3, g4⟩ := manyR_ok (enc := rowB) (fit := RowFit) (fun h => ⟨(rowR_ok h).1, (rowR_ok h).2.1, (rowR_ok h).2.2.2.1, (rowR_ok h).2.2.2.2⟩) key
      refine ⟨?_, ⟨g4, by simp⟩⟩
      have hc : contB ⟨x, rows, []⟩ = UInt8.ofNat x :: (UInt8.ofNat rows.length :: rows.flatMap rowB) := by
        unfold contB cntB
        rw [if_neg (by dsimp only; omega), tB_nat]; simp
      rw [hc, hl, g3]; rfl
    · split at hm
      · rename_i hx1 hx2
        simp only [Prod.mk.injEq] at hm
        obtain ⟨⟨h1, h2⟩, h3⟩ := hm
        subst h1
        have key : manyR kidRB (l.drop 1) 0 (needB false 0 (decide ((x : Int) ≤ 2))) = (kids, l2, 0, false) := by rw [← h2, ← h3]
        obtain ⟨_, _, g3, g4⟩ := manyR_ok (enc := kidB) (fit := KidFit) (fun h => kidRB_ok h) key
        refine ⟨?_, ⟨by simp, g4⟩⟩
        have hc : contB ⟨x, [], kids⟩ = UInt8.ofNat x :: (UInt8.ofNat kids.length :: kids.flatMap kidB) := by
          unfold contB cntB
          rw [if_neg (by dsimp only; omega), tB_nat]; simp
        rw [hc, hl, g3]; rfl
      · rename_i hx1 hx2
        simp only [Prod.mk.injEq] at hm
        obtain ⟨⟨h1, h2⟩, h3, _⟩ := hm
        subst h1; subst h2; subst h3
        have hx0 : (x : Int) = 0 := by
          rcases hkind with h | h | h
          · exact h.1
          · exact absurd (by omega) hx1
          · exact absurd (by omega) hx2
        refine ⟨?_, ⟨by simp, by simp⟩⟩
        have hc : contB ⟨x, [], []⟩ = [UInt8.ofNat x] := by
          unfold contB cntB
          rw [if_pos hx0, tB_nat]; simp
        rw [hc]; exact hl
  · rename_i hokk
    simp only [Prod.mk.injEq] at hm
    obtain ⟨⟨h1, h2⟩, h3, h4, h5⟩ := hm
    exact absurd (by rw [h5, h4]; rfl) hokk
theorem takenE_zero {bad : Bool} {st : Int} (h : takenE bad st = 0) : bad = false ∧ st = 0 := by
  cases bad
  · exact ⟨rfl, h⟩
  · simp [takenE] at h
theorem takeRow_ok {l : List UInt8} (h : (takeRowR l).2.2 = 0) : ∃ n : Nat, (takeRowR l).2.1 = n ∧ n ≤ l.length ∧ rowOk (takeRowR l).1 = true ∧ rowB (takeRowR l).1 = l.take n ∧ RowFit (takeRowR l).1 := by
  unfold takeRowR at h ⊢
  dsimp only at h ⊢
  obtain ⟨hb, hs⟩ := takenE_zero h
  generalize hr : rowR l 0 false = r at *
  obtain ⟨x, l', st, bad⟩ := r
  dsimp only at hb hs
  subst hb; subst hs
  obtain ⟨_, _, g1, g2, g3⟩ := rowR_ok hr
  have hl := congrArg List.length g2
  simp only [List.length_append] at hl
  refine ⟨(rowB x).length, ?_, by omega, ?_⟩
  · simp [takenN]; omega
  · simp only [Bool.false_or, ne_eq, not_true_eq_false, decide_false, Bool.false_eq_true, if_false]
    exact ⟨g1, by rw [g2]; simp, g3⟩
theorem takeCont_ok {l : List UInt8} (h : (takeContR l).2.2 = 0) : ∃ n : Nat, (takeContR l).2.1 = n ∧ n ≤ l.length ∧ contOk (takeContR l).1 = true ∧ contB (takeContR l).1 = l.take n ∧ ContFit (takeContR l).1 := by
  unfold takeContR at h ⊢
  dsimp only at h ⊢
  obtain ⟨hb, hs⟩ := takenE_zero h
  generalize hr : contentR l = r at *
  obtain ⟨x, l', st, bad⟩ := r
  dsimp only at hb hs
  subst hb; subst hs
  obtain ⟨g1, g2, g3⟩ := contentR_ok hr
  have hl := congrArg List.length g2
  simp only [List.length_append] at hl
  refine ⟨(contB x).length, ?_, by omega, ?_⟩
  · simp [takenN]; omega
  · simp only [Bool.false_or, ne_eq, not_true_eq_false, decide_false, Bool.false_eq_true, if_false]
    exact ⟨g1, by rw [g2]; simp, g3⟩
theorem takeCont_bad {l : List UInt8} (h : (takeContR l).2.2 ≠ 0) : (takeContR l).1 = ⟨0, [], []⟩ ∧ (takeContR l).2.1 = 0 := by
  unfold takeContR at h ⊢
  dsimp only at h ⊢
  generalize contentR l = r at *
  obtain ⟨x, l', st, bad⟩ := r
  dsimp only at h ⊢
  cases bad
  · have hs : st ≠ 0 := h
    simp [takenN, hs]
  · simp [takenN]
theorem contB_len {c : Cont} (h : contOk c = true) : (contB c).length ≤ 82 := by
  have hF := contOk_facts h
  have h1 := flatMap_le rowB 20 c.rows (fun x hx => rowB_le (hF.row x hx))
  have h2 := flatMap_le kidB 4 c.kids (fun x hx => Nat.le_of_eq (kidB_len x))
  have h3 : (cntB c).length ≤ 1 := by unfold cntB; split <;> simp
  have hk := hF.kind
  have hrl := hF.rl
  have hkl := hF.kl
  simp only [contB, List.length_cons, List.length_append]
  have er : c.rows = [] → (c.rows.flatMap rowB).length = 0 := fun e => by rw [e]; rfl
  have ek : c.kids = [] → (c.kids.flatMap kidB).length = 0 := fun e => by rw [e]; rfl
  rcases hk with ⟨_, hr, hk⟩ | ⟨_, hk⟩ | ⟨_, hr, _⟩
  · have := er hr; have := ek hk; omega
  · have := ek hk; omega
  · have := er hr; omega
end Go.Proofs.E

namespace Go.Proofs.E
open Go Go.RowKit
set_option linter.unusedVariables false
set_option linter.unusedSimpArgs false
set_option linter.unusedSectionVars false
/-! ## what the laws of this chapter are handed -/
theorem opn_u8 {H : Type} {enc : TypeId × Value → H} {w : World} : Opn enc Try.prog w 5 (fun cs (b : UInt8) => cs = [u8c b]) := fun fuel cs x h => by
  obtain ⟨n, rfl, h1, h2⟩ := opn_int Try.underlying5 fuel cs x h
  simp only [lo, hi] at h1 h2
  refine ⟨UInt8.ofNat n.toNat, ?_⟩
  have : ((UInt8.ofNat n.toNat).toNat : Int) = n := by simp [UInt8.toNat_ofNat]; omega
  simp only [u8c, this]
theorem opn_bytes {H : Type} {enc : TypeId × Value → H} {w : World} : Opn enc Try.prog w 22 (RS (hpOf w) 1 (fun cs (b : UInt8) => cs = [u8c b])) :=
  opn_slice Try.underlying22 (by kernel_rfl) (by decide) opn_u8
theorem sIn_of {ρ : Hp} {cs : List Value} {s : Option Addr × Nat × Nat × List UInt8} (h : RS ρ 1 (fun cs (b : UInt8) => cs = [u8c b]) cs s) : SIn ρ u8c s.1 s.2.1 s.2.2.2 ∧ s.2.1 ≤ s.2.2.1 ∧ s.2.1 ≤ 9223372036854775807 := by
  obtain ⟨a, n, c, ks⟩ := s
  obtain ⟨h1, h2, h3, h4, h5⟩ := h
  dsimp only at h1 h2 h3 h4 h5 ⊢
  refine ⟨⟨h4, ?_⟩, h2, by omega⟩
  by_cases h0 : n = 0
  · exact .inl h0
  · right
    obtain ⟨b, off, C, T, fr, e1, e2, e3, e4⟩ := h5 0 (by omega)
    have same : ∀ i (h : i < ks.length), off + i * 1 + 1 ≤ C.length ∧ (C.drop (off + i * 1)).take 1 = [u8c ks[i]] := fun i hi => by
      obtain ⟨b', off', C', T', fr', f1, f2, f3, f4⟩ := h5 i hi
      rw [e1] at f1
      cases f1
      rw [e2] at f2
      cases f2
      exact ⟨f3, f4⟩
    refine ⟨b, off, C, T, fr, e1, e2, ?_⟩
    apply List.ext_getElem
    · have := (same (n - 1) (by omega)).1
      simp; omega
    · intro i h1 h2
      have hi : i < ks.length := by simpa using h2
      have h3 := (same i hi).2
      have h4 := congrArg (fun l : List Value => l[0]?) h3
      simp only [List.getElem?_cons_zero] at h4
      rw [List.getElem?_take_of_lt (by omega), List.getElem?_drop] at h4
      have h5 : C[off + i]? = some (u8c ks[i]) := by simpa using h4
      simp only [List.getElem_take, List.getElem_drop, List.getElem_map]
      exact (List.getElem?_eq_some_iff.1 h5).2
end Go.Proofs.E

namespace Go.Proofs.E
open Go
set_option linter.unusedVariables false
set_option linter.unusedSimpArgs false
set_option linter.unusedSectionVars false
set_option maxRecDepth 4000
set_option maxHeartbeats 1000000
attribute [local irreducible] Yl TL TC TE Spec YSpec R1 Hp.le EnvLe TS TR YS Stays
def shortR (r : Row) : Row := ⟨r.t, r.id, r.val, r.note.take 9⟩
def fewC (c : Cont) : Cont := ⟨c.kind, (c.rows.take 5).map shortR, c.kids.take 5⟩
theorem take_min9 (l : List UInt8) : l.take (min (l.length : Int) 9).toNat = l.take 9 := by
  by_cases h : l.length ≤ 9
  · rw [show (min (l.length : Int) 9).toNat = l.length by omega, List.take_of_length_le (Nat.le_refl _), List.take_of_length_le h]
  · rw [show (min (l.length : Int) 9).toNat = 9 by omega]
theorem short_spec (ρ : Hp) (r : Row) : Spec Try.prog 35 [.agg ⟨rowV r⟩] ρ [] (fun v ρ' L' => v = .agg ⟨rowV (shortR r)⟩ ∧ ρ' = ρ ∧ L' = []) := by
  obtain ⟨t, id, val, note⟩ := r
  have e := take_min9 note
  refine spec_enter Try.func35 rfl rfl rfl fun u R => ?_
  simp only [argsE, List.cons_append, List.nil_append, shortR]
  repeat' (first | (refine i_op ?_; first | (refine iMv ?_; refine qMv ?_) | (refine iLd ?_; refine qLd ?_) | (refine iFa ?_; refine qFa ?_) | (refine iAd ?_; refine qAd ?_) | (refine iSb ?_; refine qSb ?_) | (refine iMl ?_; refine qMl ?_) | (refine iRm ?_; refine qRm ?_) | (refine iQu ?_; refine qQu ?_) | (refine iSr ?_; refine qSr ?_) | (refine iSh ?_; refine qSh ?_) | (refine iCm ?_; refine qCm ?_) | (refine iEx ?_; refine qEx ?_) | (refine iAs ?_; refine qAs ?_) | (refine iPk ?_; refine qPk ?_) | (refine iNc ?_; refine qNc ?_) | (refine iIa ?_; refine qIa ?_) | (refine iCv ?_; refine qCv ?_) | (refine iBi ?_; refine qBi ?_) | (refine iUn ?_; refine qUn ?_) | (refine iFl ?_; refine qFl ?_) | (refine iLu ?_; refine qLu ?_) | (refine iBu ?_; refine qBu ?_) | (refine iSl ?_; refine qSl ?_) | (refine iMf ?_; refine qMf ?_) | (refine iMi ?_; refine qMi ?_) | (refine iTa ?_; refine qTa ?_) | (refine iSt ?_; refine qSt ?_) | (refine iAl ?_; first | refine qAlA (fun _ => ?_) | refine qAlS (fun _ => ?_)) | (refine iBx ?_; first | refine qBxA (fun _ => ?_) | refine qBxS (fun _ => ?_)) | (refine iMm ?_; refine qMm (fun _ => ?_)) | (refine iBs ?_; refine qBs (fun _ => ?_)) | (refine i_gd ?_; first | refine qWant ?_ | refine qSkip ?_ | refine qSkip0 ?_ | refine qSkipU ?_)) | refine tl_nil ?_ | refine tc_seq ?_ | refine tc_region ?_ | refine te_seq ?_ | (refine i_cond ?_; first | refine qCt ?_ | refine qCf ?_) | refine tc_block ?_ | refine te_block_normal ?_ | refine te_block_ret ?_ | refine te_then_ret ?_ | refine te_block_hit ?_ | (refine i_miss ?_; refine qMiss ?_) | refine te_then_exit ?_ | refine tc_exit ?_ | refine tc_ret ?_ | refine tc_skip ?_ | refine tc_scope ?_ | refine te_scope_normal ?_ | refine te_scope_exit ?_ | refine te_scope_ret ?_ | refine tc_label ?_)
  rw [e]
  exact qE ⟨rfl, rfl, rfl⟩
structure CInW (ρ : Hp) (v : CV) (rows : List Row) (kids : List Kid) : Prop where
  r : AIn ρ 4 rowV v.ra v.rn rows
  k : AIn ρ 3 kidV v.ka v.kn kids
  rb : v.rn ≤ 9223372036854775807
  kb : v.kn ≤ 9223372036854775807
  rc : v.rn ≤ v.rc
  kc : v.kn ≤ v.kc
theorem CInW.mono {ρ ρ' v rows kids} (h : CInW ρ v rows kids) (hle : ρ.le ρ') : CInW ρ' v rows kids := ⟨h.r.mono hle, h.k.mono hle, h.rb, h.kb, h.rc, h.kc⟩
theorem flatK_one (l : List Kid) : ((l.map kidV).flatten).all (·.oneCell') = true := by
  induction l with
  | nil => rfl
  | cons k r ih => simp only [List.map_cons, List.flatten_cons, List.all_append, ih, Bool.and_true]; rfl
theorem few_spec (ρ : Hp) (w : CV) (c : Cont) (h : CInW ρ w c.rows c.kids) :
    Spec Try.prog 29 [.agg ⟨contV c.kind w⟩] ρ [] (fun v ρ' L' => ρ.le ρ' ∧ ∃ w', v = .agg ⟨contV c.kind w'⟩ ∧ CIn ρ' w' (fewC c).rows (fewC c).kids ∧ L' = []) := by
  obtain ⟨kind, rows, kids⟩ := c
  obtain ⟨ra, rn, rc, ka, kn, kc⟩ := w
  obtain ⟨hr, hk, hrb, hkb, hrc, hkc⟩ := h
  dsimp only at hr hk hrb hkb hrc hkc
  have hrl := hr.len
  have hkl := hk.len
  dsimp only [fewC, contV]
  obtain ⟨m, hm⟩ : ∃ m, m = min kn 5 := ⟨_, rfl⟩
  have hmt : (min (kn : Int) 5).toNat = m := by omega
  have hk5 := hk.take (hi' := m) (by omega)
  have hkt : kids.take m = kids.take 5 := by
    by_cases h5 : kn ≤ 5
    · rw [show m = kn by omega, List.take_of_length_le (by omega), List.take_of_length_le (by omega)]
    · rw [show m = 5 by omega]
  rw [hkt] at hk5
  have hm5 : m ≤ 5 := by omega
  refine spec_enter Try.func29 rfl rfl rfl fun u R => ?_
  simp only [argsE, List.cons_append, List.nil_append]
  repeat' (first | (refine i_op ?_; first | (refine iMv ?_; refine qMv ?_) | (refine iLd ?_; refine qLd ?_) | (refine iFa ?_; refine qFa ?_) | (refine iAd ?_; refine qAd ?_) | (refine iSb ?_; refine qSb ?_) | (refine iMl ?_; refine qMl ?_) | (refine iRm ?_; refine qRm ?_) | (refine iQu ?_; refine qQu ?_) | (refine iSr ?_; refine qSr ?_) | (refine iSh ?_; refine qSh ?_) | (refine iCm ?_; refine qCm ?_) | (refine iEx ?_; refine qEx ?_) | (refine iAs ?_; refine qAs ?_) | (refine iPk ?_; refine qPk ?_) | (refine iNc ?_; refine qNc ?_) | (refine iIa ?_; refine qIa ?_) | (refine iCv ?_; refine qCv ?_) | (refine iBi ?_; refine qBi ?_) | (refine iUn ?_; refine qUn ?_) | (refine iFl ?_; refine qFl ?_) | (refine iLu ?_; refine qLu ?_) | (refine iBu ?_; refine qBu ?_) | (refine iSl ?_; refine qSl ?_) | (refine iMf ?_; refine qMf ?_) | (refine iMi ?_; refine qMi ?_) | (refine iTa ?_; refine qTa ?_) | (refine iSt ?_; refine qSt ?_) | (refine iAl ?_; first | refine qAlA (fun _ => ?_) | refine qAlS (fun _ => ?_)) | (refine iBx ?_; first | refine qBxA (fun _ => ?_) | refine qBxS (fun _ => ?_)) | (refine iMm ?_; refine qMm (fun _ => ?_)) | (refine iBs ?_; refine qBs (fun _ => ?_)) | (refine i_gd ?_; first | refine qWant ?_ | refine qSkip ?_ | refine qSkip0 ?_ | refine qSkipU ?_)) | refine tl_nil ?_ | refine tc_seq ?_ | refine tc_region ?_ | refine te_seq ?_ | (refine i_cond ?_; first | refine qCt ?_ | refine qCf ?_) | refine tc_block ?_ | refine te_block_normal ?_ | refine te_block_ret ?_ | refine te_then_ret ?_ | refine te_block_hit ?_ | (refine i_miss ?_; refine qMiss ?_) | refine te_then_exit ?_ | refine tc_exit ?_ | refine tc_ret ?_ | refine tc_skip ?_ | refine tc_scope ?_ | refine te_scope_normal ?_ | refine te_scope_exit ?_ | refine te_scope_ret ?_ | refine tc_label ?_)
  refine tc_loop_g [(1, _), (2, _), (7, _), (8, _)] (fun (ζ : (Nat) × (Value) × (List Value) × (List Row)) => [(9, .int .i64 ζ.1), (3, ζ.2.1)]) (fun (ζ : (Nat) × (Value) × (List Value) × (List Row)) => ρ) (fun (ζ : (Nat) × (Value) × (List Value) × (List Row)) => [ownC ζ.2.1 ((ζ.2.2.2.map rowV).flatten) ζ.2.2.1 28]) (fun (ζ : (Nat) × (Value) × (List Value) × (List Row)) => ζ.1 ≤ rn ∧ ζ.2.2.2 = ((rows.take (min ζ.1 5)).map shortR) ∧ ζ.2.2.2.length ≤ 5 ∧ OwnS ζ.2.1 ζ.2.2.2.length ((ζ.2.2.2.map rowV).flatten) ζ.2.2.1 4) (fun (ζ : (Nat) × (Value) × (List Value) × (List Row)) => rn - ζ.1) ((0, .slice none 0 0, [], [])) (⟨Nat.zero_le _, by simp, by simp, OwnS.nil 4⟩) ev_le ev_le rfl tk ?_
  rintro ⟨k, v, sp, acc⟩ hI
  try simp only [List.cons_append, List.nil_append, List.append_assoc, List.append_eq] at hI ⊢
  try dsimp only at hI ⊢
  obtain ⟨hk1, hacc, hal, hown⟩ := hI
  obtain ⟨va, vc, rfl, _⟩ := hown.len
  by_cases hlt : k < rn
  · obtain ⟨b, off, C, T, fr, rfl, hb, hfit, hc⟩ := hr.get (show k < rows.length by omega)
    have hts := List.take_succ_eq_append_getElem (show k < rows.length by omega)
    have hlen : (rows.take k).length = k := by simp; omega
    generalize rows[k]'(by omega) = x at *
    by_cases h4 : k ≤ 4
    · have hak : acc.length = k := by rw [hacc, show min k 5 = k by omega]; simp; omega
      have hacc' : acc ++ [shortR x] = ((rows.take (min (k + 1) 5)).map shortR) := by rw [hacc, show min k 5 = k by omega, show min (k + 1) 5 = k + 1 by omega, hts]; simp
      repeat' (first | (refine tl_is (.func 35) ?_; refine qC rfl rfl (short_spec _ x) ?_; rintro v ρ' L' hle ⟨rfl, rfl, rfl⟩ <;> (try simp only [List.cons_append, List.nil_append, List.append_eq])) | (refine i_op ?_; first | (refine iMv ?_; refine qMv ?_) | (refine iLd ?_; refine qLd ?_) | (refine iFa ?_; refine qFa ?_) | (refine iAd ?_; refine qAd ?_) | (refine iSb ?_; refine qSb ?_) | (refine iMl ?_; refine qMl ?_) | (refine iRm ?_; refine qRm ?_) | (refine iQu ?_; refine qQu ?_) | (refine iSr ?_; refine qSr ?_) | (refine iSh ?_; refine qSh ?_) | (refine iCm ?_; refine qCm ?_) | (refine iEx ?_; refine qEx ?_) | (refine iAs ?_; refine qAs ?_) | (refine iPk ?_; refine qPk ?_) | (refine iNc ?_; refine qNc ?_) | (refine iIa ?_; refine qIa ?_) | (refine iCv ?_; refine qCv ?_) | (refine iBi ?_; refine qBi ?_) | (refine iUn ?_; refine qUn ?_) | (refine iFl ?_; refine qFl ?_) | (refine iLu ?_; refine qLu ?_) | (refine iBu ?_; refine qBu ?_) | (refine iSl ?_; refine qSl ?_) | (refine iMf ?_; refine qMf ?_) | (refine iMi ?_; refine qMi ?_) | (refine iTa ?_; refine qTa ?_) | (refine iSt ?_; refine qSt ?_) | (refine iAl ?_; first | refine qAlA (fun _ => ?_) | refine qAlS (fun _ => ?_)) | (refine iBx ?_; first | refine qBxA (fun _ => ?_) | refine qBxS (fun _ => ?_)) | (refine iMm ?_; refine qMm (fun _ => ?_)) | (refine iBs ?_; refine qBs (fun _ => ?_)) | (refine i_gd ?_; first | refine qWant ?_ | refine qSkip ?_ | refine qSkip0 ?_ | refine qSkipU ?_)) | refine tl_nil ?_ | refine tc_seq ?_ | refine tc_region ?_ | refine te_seq ?_ | (refine i_cond ?_; first | refine qCt ?_ | refine qCf ?_) | refine tc_block ?_ | refine te_block_normal ?_ | refine te_block_ret ?_ | refine te_then_ret ?_ | refine te_block_hit ?_ | (refine i_miss ?_; refine qMiss ?_) | refine te_then_exit ?_ | refine tc_exit ?_ | refine tc_ret ?_ | refine tc_skip ?_ | refine tc_scope ?_ | refine te_scope_normal ?_ | refine te_scope_exit ?_ | refine te_scope_ret ?_ | refine tc_label ?_)
      refine tl_buildSliceA (css := [rowV (shortR x)]) (sz := 4) rfl rfl rfl rfl (by simp) (by simp) rfl (fun bs => ?_)
      simp only [List.flatten_cons, List.flatten_nil, List.append_nil]
      refine tl_app (ys := rowV (shortR x)) (m := 1) rfl rfl hown (hR := by infer_instance) (SrcV.lit) rfl rfl (by decide) rfl (by omega) (by omega) rfl (fun v' sp' hown' => ?_)
      have hmm : (acc.map rowV).flatten ++ rowV (shortR x) = ((acc ++ [shortR x]).map rowV).flatten := by simp
      rw [hmm] at hown' ⊢
      repeat' (first | (refine i_op ?_; first | (refine iMv ?_; refine qMv ?_) | (refine iLd ?_; refine qLd ?_) | (refine iFa ?_; refine qFa ?_) | (refine iAd ?_; refine qAd ?_) | (refine iSb ?_; refine qSb ?_) | (refine iMl ?_; refine qMl ?_) | (refine iRm ?_; refine qRm ?_) | (refine iQu ?_; refine qQu ?_) | (refine iSr ?_; refine qSr ?_) | (refine iSh ?_; refine qSh ?_) | (refine iCm ?_; refine qCm ?_) | (refine iEx ?_; refine qEx ?_) | (refine iAs ?_; refine qAs ?_) | (refine iPk ?_; refine qPk ?_) | (refine iNc ?_; refine qNc ?_) | (refine iIa ?_; refine qIa ?_) | (refine iCv ?_; refine qCv ?_) | (refine iBi ?_; refine qBi ?_) | (refine iUn ?_; refine qUn ?_) | (refine iFl ?_; refine qFl ?_) | (refine iLu ?_; refine qLu ?_) | (refine iBu ?_; refine qBu ?_) | (refine iSl ?_; refine qSl ?_) | (refine iMf ?_; refine qMf ?_) | (refine iMi ?_; refine qMi ?_) | (refine iTa ?_; refine qTa ?_) | (refine iSt ?_; refine qSt ?_) | (refine iAl ?_; first | refine qAlA (fun _ => ?_) | refine qAlS (fun _ => ?_)) | (refine iBx ?_; first | refine qBxA (fun _ => ?_) | refine qBxS (fun _ => ?_)) | (refine iMm ?_; refine qMm (fun _ => ?_)) | (refine iBs ?_; refine qBs (fun _ => ?_)) | (refine i_gd ?_; first | refine qWant ?_ | refine qSkip ?_ | refine qSkip0 ?_ | refine qSkipU ?_)) | refine tl_nil ?_ | refine tc_seq ?_ | refine tc_region ?_ | refine te_seq ?_ | (refine i_cond ?_; first | refine qCt ?_ | refine qCf ?_) | refine tc_block ?_ | refine te_block_normal ?_ | refine te_block_ret ?_ | refine te_then_ret ?_ | refine te_block_hit ?_ | (refine i_miss ?_; refine qMiss ?_) | refine te_then_exit ?_ | refine tc_exit ?_ | refine tc_ret ?_ | refine tc_skip ?_ | refine tc_scope ?_ | refine te_scope_normal ?_ | refine te_scope_exit ?_ | refine te_scope_ret ?_ | refine tc_label ?_)
      refine te_round_g (k + 1, v', sp', acc ++ [shortR x]) (⟨hlt, hacc', by simp; omega, by simpa using hown'⟩) ev_le ev_le rfl tk inferInstance (by first | omega | (dsimp only; omega))
    · have hacc' : acc = ((rows.take (min (k + 1) 5)).map shortR) := by rw [hacc, show min k 5 = 5 by omega, show min (k + 1) 5 = 5 by omega]
      repeat' (first | (refine i_op ?_; first | (refine iMv ?_; refine qMv ?_) | (refine iLd ?_; refine qLd ?_) | (refine iFa ?_; refine qFa ?_) | (refine iAd ?_; refine qAd ?_) | (refine iSb ?_; refine qSb ?_) | (refine iMl ?_; refine qMl ?_) | (refine iRm ?_; refine qRm ?_) | (refine iQu ?_; refine qQu ?_) | (refine iSr ?_; refine qSr ?_) | (refine iSh ?_; refine qSh ?_) | (refine iCm ?_; refine qCm ?_) | (refine iEx ?_; refine qEx ?_) | (refine iAs ?_; refine qAs ?_) | (refine iPk ?_; refine qPk ?_) | (refine iNc ?_; refine qNc ?_) | (refine iIa ?_; refine qIa ?_) | (refine iCv ?_; refine qCv ?_) | (refine iBi ?_; refine qBi ?_) | (refine iUn ?_; refine qUn ?_) | (refine iFl ?_; refine qFl ?_) | (refine iLu ?_; refine qLu ?_) | (refine iBu ?_; refine qBu ?_) | (refine iSl ?_; refine qSl ?_) | (refine iMf ?_; refine qMf ?_) | (refine iMi ?_; refine qMi ?_) | (refine iTa ?_; refine qTa ?_) | (refine iSt ?_; refine qSt ?_) | (refine iAl ?_; first | refine qAlA (fun _ => ?_) | refine qAlS (fun _ => ?_)) | (refine iBx ?_; first | refine qBxA (fun _ => ?_) | refine qBxS (fun _ => ?_)) | (refine iMm ?_; refine qMm (fun _ => ?_)) | (refine iBs ?_; refine qBs (fun _ => ?_)) | (refine i_gd ?_; first | refine qWant ?_ | refine qSkip ?_ | refine qSkip0 ?_ | refine qSkipU ?_)) | refine tl_nil ?_ | refine tc_seq ?_ | refine tc_region ?_ | refine te_seq ?_ | (refine i_cond ?_; first | refine qCt ?_ | refine qCf ?_) | refine tc_block ?_ | refine te_block_normal ?_ | refine te_block_ret ?_ | refine te_then_ret ?_ | refine te_block_hit ?_ | (refine i_miss ?_; refine qMiss ?_) | refine te_then_exit ?_ | refine tc_exit ?_ | refine tc_ret ?_ | refine tc_skip ?_ | refine tc_scope ?_ | refine te_scope_normal ?_ | refine te_scope_exit ?_ | refine te_scope_ret ?_ | refine tc_label ?_)
      refine te_round_g (k + 1, _, sp, acc) (⟨hlt, hacc', hal, hown⟩) ev_le ev_le rfl tk inferInstance (by first | omega | (dsimp only; omega))
  · have hk2 : k = rn := by omega
    subst hk2
    have hfin : acc = (rows.take 5).map shortR := by
      rw [hacc]
      by_cases h5 : k ≤ 5
      · rw [show min k 5 = k by omega, List.take_of_length_le (by omega), List.take_of_length_le (by omega)]
      · rw [show min k 5 = 5 by omega]
    repeat' (first | (refine i_op ?_; first | (refine iMv ?_; refine qMv ?_) | (refine iLd ?_; refine qLd ?_) | (refine iFa ?_; refine qFa ?_) | (refine iAd ?_; refine qAd ?_) | (refine iSb ?_; refine qSb ?_) | (refine iMl ?_; refine qMl ?_) | (refine iRm ?_; refine qRm ?_) | (refine iQu ?_; refine qQu ?_) | (refine iSr ?_; refine qSr ?_) | (refine iSh ?_; refine qSh ?_) | (refine iCm ?_; refine qCm ?_) | (refine iEx ?_; refine qEx ?_) | (refine iAs ?_; refine qAs ?_) | (refine iPk ?_; refine qPk ?_) | (refine iNc ?_; refine qNc ?_) | (refine iIa ?_; refine qIa ?_) | (refine iCv ?_; refine qCv ?_) | (refine iBi ?_; refine qBi ?_) | (refine iUn ?_; refine qUn ?_) | (refine iFl ?_; refine qFl ?_) | (refine iLu ?_; refine qLu ?_) | (refine iBu ?_; refine qBu ?_) | (refine iSl ?_; refine qSl ?_) | (refine iMf ?_; refine qMf ?_) | (refine iMi ?_; refine qMi ?_) | (refine iTa ?_; refine qTa ?_) | (refine iSt ?_; refine qSt ?_) | (refine iAl ?_; first | refine qAlA (fun _ => ?_) | refine qAlS (fun _ => ?_)) | (refine iBx ?_; first | refine qBxA (fun _ => ?_) | refine qBxS (fun _ => ?_)) | (refine iMm ?_; refine qMm (fun _ => ?_)) | (refine iBs ?_; refine qBs (fun _ => ?_)) | (refine i_gd ?_; first | refine qWant ?_ | refine qSkip ?_ | refine qSkip0 ?_ | refine qSkipU ?_)) | refine tl_nil ?_ | refine tc_seq ?_ | refine tc_region ?_ | refine te_seq ?_ | (refine i_cond ?_; first | refine qCt ?_ | refine qCf ?_) | refine tc_block ?_ | refine te_block_normal ?_ | refine te_block_ret ?_ | refine te_then_ret ?_ | refine te_block_hit ?_ | (refine i_miss ?_; refine qMiss ?_) | refine te_then_exit ?_ | refine tc_exit ?_ | refine tc_ret ?_ | refine tc_skip ?_ | refine tc_scope ?_ | refine te_scope_normal ?_ | refine te_scope_exit ?_ | refine te_scope_ret ?_ | refine tc_label ?_)
    rw [hmt]
    refine tl_app (n := 0) (xs := []) (sp := []) (ys := ((kids.take 5).map kidV).flatten) (m := m) (sz := 3) rfl rfl (OwnS.zero _ 3) (hR := rem_here') (AIn.srcV hk5) (by rw [flat_len kidV 3 _ (fun x _ => rfl), hk5.len]) (flatK_one _) (by decide) rfl (by omega) (by omega) rfl (fun v2 sp2 hown2 => ?_)
    simp only [Nat.zero_add, List.nil_append] at hown2 ⊢
    refine tl_freeze (ownC v2 ((kids.take 5).map kidV).flatten sp2 134) (fun ρ2 hle2 hfz2 => ?_)
    obtain ⟨a2, c2, rfl, hc2, hA2⟩ := hown2.aIn hk5.len (fun x _ => rfl) hfz2
    refine tl_freeze (ownC (.slice va acc.length vc) ((acc.map rowV).flatten) sp 28) (fun ρ3 hle3 hfz3 => ?_)
    obtain ⟨a3, c3, e3, hc3, hA3⟩ := hown.aIn rfl (fun x _ => rfl) hfz3
    cases e3
    repeat' (first | (refine i_op ?_; first | (refine iMv ?_; refine qMv ?_) | (refine iLd ?_; refine qLd ?_) | (refine iFa ?_; refine qFa ?_) | (refine iAd ?_; refine qAd ?_) | (refine iSb ?_; refine qSb ?_) | (refine iMl ?_; refine qMl ?_) | (refine iRm ?_; refine qRm ?_) | (refine iQu ?_; refine qQu ?_) | (refine iSr ?_; refine qSr ?_) | (refine iSh ?_; refine qSh ?_) | (refine iCm ?_; refine qCm ?_) | (refine iEx ?_; refine qEx ?_) | (refine iAs ?_; refine qAs ?_) | (refine iPk ?_; refine qPk ?_) | (refine iNc ?_; refine qNc ?_) | (refine iIa ?_; refine qIa ?_) | (refine iCv ?_; refine qCv ?_) | (refine iBi ?_; refine qBi ?_) | (refine iUn ?_; refine qUn ?_) | (refine iFl ?_; refine qFl ?_) | (refine iLu ?_; refine qLu ?_) | (refine iBu ?_; refine qBu ?_) | (refine iSl ?_; refine qSl ?_) | (refine iMf ?_; refine qMf ?_) | (refine iMi ?_; refine qMi ?_) | (refine iTa ?_; refine qTa ?_) | (refine iSt ?_; refine qSt ?_) | (refine iAl ?_; first | refine qAlA (fun _ => ?_) | refine qAlS (fun _ => ?_)) | (refine iBx ?_; first | refine qBxA (fun _ => ?_) | refine qBxS (fun _ => ?_)) | (refine iMm ?_; refine qMm (fun _ => ?_)) | (refine iBs ?_; refine qBs (fun _ => ?_)) | (refine i_gd ?_; first | refine qWant ?_ | refine qSkip ?_ | refine qSkip0 ?_ | refine qSkipU ?_)) | refine tl_nil ?_ | refine tc_seq ?_ | refine tc_region ?_ | refine te_seq ?_ | (refine i_cond ?_; first | refine qCt ?_ | refine qCf ?_) | refine tc_block ?_ | refine te_block_normal ?_ | refine te_block_ret ?_ | refine te_then_ret ?_ | refine te_block_hit ?_ | (refine i_miss ?_; refine qMiss ?_) | refine te_then_exit ?_ | refine tc_exit ?_ | refine tc_ret ?_ | refine tc_skip ?_ | refine tc_scope ?_ | refine te_scope_normal ?_ | refine te_scope_exit ?_ | refine te_scope_ret ?_ | refine tc_label ?_)
    exact qE ⟨Hp.le_trans hle2 hle3, ⟨va, acc.length, vc, a2, m, c2⟩, rfl, ⟨by rw [← hfin]; exact hA3, hA2.mono hle3, by dsimp only; omega, by dsimp only; omega, hc3, hc2⟩, rfl⟩
end Go.Proofs.E

namespace Go.Proofs.E
open Go
set_option linter.unusedVariables false
set_option linter.unusedSimpArgs false
set_option linter.unusedSectionVars false
set_option maxRecDepth 4000
set_option maxHeartbeats 1000000
attribute [local irreducible] Yl TL TC TE Spec YSpec R1 Hp.le EnvLe TS TR YS Stays
/-! ## what was laid is taken back; less is too short -/
theorem numR_app {k : Nat} {x rest : List UInt8} (h : x.length = k) : numR k (x ++ rest) 0 = (unbe x, rest, 0) := by
  unfold numR
  rw [if_neg (by simp), if_neg (by simp; omega), List.take_left' h, List.drop_left' h]
theorem numR_short {k : Nat} {x : List UInt8} (h : x.length < k) : numR k x 0 = (0, x, 7) := by
  unfold numR
  rw [if_neg (by simp), if_pos h]
theorem numR_seven {k : Nat} {x : List UInt8} : numR k x 7 = (0, x, 7) := by
  unfold numR
  rw [if_pos (by decide)]
theorem unbe_one (b : UInt8) : unbe [b] = b.toNat := by simp [unbe]
theorem tB_toNat {t : Int} (h0 : 0 ≤ t) (h1 : t < 256) : ((tB t).toNat : Int) = t := by
  obtain ⟨n, rfl⟩ : ∃ n : Nat, t = n := ⟨t.toNat, by omega⟩
  simp only [tB, Int.toNat_natCast, UInt8.toNat_ofNat']
  have e : (2 : Nat) ^ 8 = 256 := by decide
  rw [e]; omega
theorem rowR_back {r : Row} (hr : rowOk r = true) (hf : RowFit r) (rest : List UInt8) : rowR (rowB r ++ rest) 0 false = (r, rest, 0, false) := by
  obtain ⟨h0, h3, h8⟩ := rowOk_iff hr
  obtain ⟨hid, hval⟩ := hf
  obtain ⟨t, id, val, note⟩ := r
  dsimp only at h0 h3 h8 hid hval
  have e0 : rowB ⟨t, id, val, note⟩ ++ rest = [tB t] ++ (be 2 id ++ (be 8 (vN val) ++ ([UInt8.ofNat note.length] ++ (note ++ rest)))) := by simp [rowB, keyB]
  have e1 : numR 1 (rowB ⟨t, id, val, note⟩ ++ rest) 0 = ((tB t).toNat, be 2 id ++ (be 8 (vN val) ++ ([UInt8.ofNat note.length] ++ (note ++ rest))), 0) := by rw [e0, numR_app (k := 1) (x := [tB t]) rfl, unbe_one]
  have e2 := numR_app (k := 2) (x := be 2 id) (rest := be 8 (vN val) ++ ([UInt8.ofNat note.length] ++ (note ++ rest))) (be_length _ _)
  have e3 := numR_app (k := 8) (x := be 8 (vN val)) (rest := [UInt8.ofNat note.length] ++ (note ++ rest)) (be_length _ _)
  have e4 := numR_app (k := 1) (x := [UInt8.ofNat note.length]) (rest := note ++ rest) rfl
  rw [unbe_be, Nat.mod_eq_of_lt (by omega)] at e2
  rw [unbe_be, Nat.mod_eq_of_lt (by have := vN_lt val; omega)] at e3
  have hlen : (UInt8.ofNat note.length).toNat = note.length := by
    rw [UInt8.toNat_ofNat']
    have e : (2 : Nat) ^ 8 = 256 := by decide
    rw [e]; omega
  rw [unbe_one, hlen] at e4
  have e5 : rawR note.length (note ++ rest) 0 = (note, rest, 0) := by
    unfold rawR
    rw [if_neg (by simp), if_neg (by simp), List.take_left' rfl, List.drop_left' rfl]
  have ht := tB_toNat h0 (by omega : t < 256)
  unfold rowR
  simp only [e1, e2, e3, e4, e5]
  have hb1 : needB false 0 (decide (((tB t).toNat : Int) < 3)) = false := by rw [ht, decide_eq_true h3]; rfl
  have hb2 : needB false 0 (decide ((note.length : Int) ≤ 8)) = false := by rw [decide_eq_true (by omega)]; rfl
  simp only [hb1, hb2, Bool.not_false, decide_true, Bool.and_self, if_true]
  rw [ht, i64N_vN hval]
theorem kidRB_back {k : Kid} (hid : k.id < 65536) (ht : 0 ≤ k.t ∧ k.t < 3) (hp : 0 < k.page ∧ k.page < 64) (rest : List UInt8) : kidRB (kidB k ++ rest) 0 false = (k, rest, 0, false) := by
  obtain ⟨t, id, page⟩ := k
  dsimp only at hid ht hp
  have e0 : kidB ⟨t, id, page⟩ ++ rest = [tB t] ++ (be 2 id ++ ([tB page] ++ rest)) := by simp [kidB, keyB]
  have e1 : numR 1 (kidB ⟨t, id, page⟩ ++ rest) 0 = ((tB t).toNat, be 2 id ++ ([tB page] ++ rest), 0) := by rw [e0, numR_app (k := 1) (x := [tB t]) rfl, unbe_one]
  have e2 := numR_app (k := 2) (x := be 2 id) (rest := [tB page] ++ rest) (be_length _ _)
  have e3 := numR_app (k := 1) (x := [tB page]) (rest := rest) rfl
  rw [unbe_be, Nat.mod_eq_of_lt (by omega)] at e2
  rw [unbe_one] at e3
  unfold kidRB kidR
  simp only [e1, e2, e3, tB_toNat ht.1 (by omega : t < 256), tB_toNat (by omega : 0 ≤ page) (by omega : page < 256)]
theorem manyTo_back {α : Type} {f : List UInt8 → Int → Bool → α × RS3} {enc : α → List UInt8} : ∀ (xs : List α), (∀ x ∈ xs, ∀ rest, f (enc x ++ rest) 0 false = (x, rest, 0, false)) → ∀ rest, manyTo f xs.length (xs.flatMap enc ++ rest) 0 false = (xs, rest, 0, false)
  | [], _, rest => rfl
  | x :: xs, h, rest => by
    rw [List.length_cons, manyTo, if_pos (by decide), List.flatMap_cons, List.append_assoc, h x (by simp)]
    dsimp only
    rw [manyTo_back xs (fun y hy => h y (by simp [hy]))]
theorem manyR_back {α : Type} {f : List UInt8 → Int → Bool → α × RS3} {enc : α → List UInt8} {xs : List α} (hl : xs.length ≤ 4) (h : ∀ x ∈ xs, ∀ rest, f (enc x ++ rest) 0 false = (x, rest, 0, false)) (rest : List UInt8) :
    manyR f (UInt8.ofNat xs.length :: (xs.flatMap enc ++ rest)) 0 false = (xs, rest, 0, false) := by
  have hlen : (UInt8.ofNat xs.length).toNat = xs.length := by
    rw [UInt8.toNat_ofNat']
    have e : (2 : Nat) ^ 8 = 256 := by decide
    rw [e]; omega
  have e1 : numR 1 (UInt8.ofNat xs.length :: (xs.flatMap enc ++ rest)) 0 = (xs.length, xs.flatMap enc ++ rest, 0) := by
    have := numR_app (k := 1) (x := [UInt8.ofNat xs.length]) (rest := xs.flatMap enc ++ rest) rfl
    rw [unbe_one, hlen] at this
    exact this
  unfold manyR
  simp only [e1]
  have hb : needB false 0 (decide ((xs.length : Int) ≤ 4)) = false := by rw [decide_eq_true (by omega)]; rfl
  rw [hb]
  exact manyTo_back xs h rest
structure IdFit (c : Cont) : Prop where
  row : ∀ r ∈ c.rows, RowFit r
  kid : ∀ k ∈ c.kids, k.id < 65536
theorem contB_form {c : Cont} (h : contOk c = true) : (c.kind = 0 ∧ c = ⟨0, [], []⟩ ∧ contB c = [0]) ∨ (c.kind = 1 ∧ c.kids = [] ∧ contB c = 1 :: (UInt8.ofNat c.rows.length :: c.rows.flatMap rowB)) ∨ (c.kind = 2 ∧ c.rows = [] ∧ contB c = 2 :: (UInt8.ofNat c.kids.length :: c.kids.flatMap kidB)) := by
  have hF := (contOk_facts h).kind
  obtain ⟨kind, rows, kids⟩ := c
  dsimp only at hF ⊢
  rcases hF with ⟨rfl, rfl, rfl⟩ | ⟨rfl, rfl⟩ | ⟨rfl, rfl, _⟩
  · exact .inl ⟨rfl, rfl, by simp [contB, cntB]; rfl⟩
  · exact .inr (.inl ⟨rfl, rfl, by simp [contB, cntB]; rfl⟩)
  · exact .inr (.inr ⟨rfl, rfl, by simp [contB, cntB]; rfl⟩)
theorem contentR_back {c : Cont} (h : contOk c = true) (hf : IdFit c) (rest : List UInt8) : contentR (contB c ++ rest) = (c, rest, 0, false) := by
  have hF := contOk_facts h
  have hrb : ∀ r ∈ c.rows, ∀ rest, rowR (rowB r ++ rest) 0 false = (r, rest, 0, false) := fun r hr rest => rowR_back (hF.row r hr) (hf.row r hr) rest
  have hkb : ∀ k ∈ c.kids, ∀ rest, kidRB (kidB k ++ rest) 0 false = (k, rest, 0, false) := fun k hk rest => kidRB_back (hf.kid k hk) (hF.kid k hk).1 (hF.kid k hk).2 rest
  have hrl := hF.rl
  have hkl := hF.kl
  rcases contB_form h with ⟨hk, rfl, e⟩ | ⟨hk, hks, e⟩ | ⟨hk, hrs, e⟩
  · rw [e]
    have e1 : numR 1 ([0] ++ rest) 0 = (0, rest, 0) := by rw [numR_app (k := 1) (x := [0]) rfl]; rfl
    unfold contentR contE
    simp only [e1]
    rfl
  · obtain ⟨kind, rows, kids⟩ := c
    dsimp only at hk hks
    subst hk; subst hks
    rw [e]
    have e1 : numR 1 (1 :: (UInt8.ofNat rows.length :: rows.flatMap rowB) ++ rest) 0 = (1, UInt8.ofNat rows.length :: (rows.flatMap rowB ++ rest), 0) := by
      have := numR_app (k := 1) (x := [1]) (rest := UInt8.ofNat rows.length :: (rows.flatMap rowB ++ rest)) rfl
      exact this
    have hb : needB false 0 (decide (((1 : Nat) : Int) ≤ 2)) = false := rfl
    unfold contentR contE
    simp only [e1, hb, contM, manyR_back hrl hrb rest, Bool.not_false, decide_true, Bool.and_self, if_true]
    have hn : needB false 0 (contOk ⟨((1 : Nat) : Int), rows, []⟩) = false := by rw [show contOk ⟨((1 : Nat) : Int), rows, []⟩ = true from h]; rfl
    rw [hn]; rfl
  · obtain ⟨kind, rows, kids⟩ := c
    dsimp only at hk hrs
    subst hk; subst hrs
    rw [e]
    have e1 : numR 1 (2 :: (UInt8.ofNat kids.length :: kids.flatMap kidB) ++ rest) 0 = (2, UInt8.ofNat kids.length :: (kids.flatMap kidB ++ rest), 0) := by
      have := numR_app (k := 1) (x := [2]) (rest := UInt8.ofNat kids.length :: (kids.flatMap kidB ++ rest)) rfl
      exact this
    have hb : needB false 0 (decide (((2 : Nat) : Int) ≤ 2)) = false := rfl
    unfold contentR contE
    simp only [e1, hb, contM, manyR_back hkl hkb rest, Bool.not_false, decide_true, Bool.and_self, if_true, show ¬ ((2 : Nat) = 1) by decide, if_false]
    have hn : needB false 0 (contOk ⟨((2 : Nat) : Int), [], kids⟩) = false := by rw [show contOk ⟨((2 : Nat) : Int), [], kids⟩ = true from h]; rfl
    rw [hn]; rfl
theorem takeCont_back {c : Cont} (h : contOk c = true) (hf : IdFit c) (rest : List UInt8) : takeContR (contB c ++ rest) = (c, (((contB c).length : Nat) : Int), 0) := by
  unfold takeContR
  simp only [contentR_back h hf rest]
  simp [takenN, takenE]
theorem takeRow_back {r : Row} (h : rowOk r = true) (hf : RowFit r) (rest : List UInt8) : takeRowR (rowB r ++ rest) = (r, (((rowB r).length : Nat) : Int), 0) := by
  unfold takeRowR
  simp only [rowR_back h hf rest]
  simp [takenN, takenE]
end Go.Proofs.E

namespace Go.Proofs.E
open Go
set_option linter.unusedVariables false
set_option linter.unusedSimpArgs false
set_option linter.unusedSectionVars false
set_option maxRecDepth 4000
set_option maxHeartbeats 1000000
attribute [local irreducible] Yl TL TC TE Spec YSpec R1 Hp.le EnvLe TS TR YS Stays
theorem contB_apart {c d : Cont} (hc : contOk c = true) (hd : contOk d = true) (fc : IdFit c) (fd : IdFit d) (h : contB d <+: contB c) : c = d := by
  obtain ⟨t, ht⟩ := h
  have e1 := takeCont_back hc fc []
  have e2 := takeCont_back hd fd t
  rw [List.append_nil, ← ht, e2] at e1
  exact (congrArg Prod.fst e1).symm
theorem shortR_fit {r : Row} (h : RowFit r) : RowFit (shortR r) := ⟨h.id, h.val⟩
theorem fewC_fit {c : Cont} (h : IdFit c) : IdFit (fewC c) := ⟨fun r hr => by
    obtain ⟨x, hx, rfl⟩ := List.mem_map.1 hr
    exact shortR_fit (h.row x (List.mem_of_mem_take hx)), fun k hk => h.kid k (List.mem_of_mem_take hk)⟩
theorem apart_spec (ρ : Hp) (w1 w2 : CV) (c1 c2 : Cont) (h1 : CInW ρ w1 c1.rows c1.kids) (h2 : CInW ρ w2 c2.rows c2.kids) (f1 : IdFit c1) (f2 : IdFit c2) :
    Spec Try.prog 7 [.agg ⟨contV c1.kind w1⟩, .agg ⟨contV c2.kind w2⟩] ρ [] (fun v ρ' L' => v = .bool true ∧ ρ.le ρ' ∧ L' = []) := by
  have g1 := fewC_fit f1
  have g2 := fewC_fit f2
  have hw1 := fun ρ h => few_spec ρ w1 c1 h
  have hw2 := fun ρ h => few_spec ρ w2 c2 h
  have hk1 : (fewC c1).kind = c1.kind := rfl
  have hk2 : (fewC c2).kind = c2.kind := rfl
  refine spec_enter Try.func7 rfl rfl rfl fun u R => ?_
  simp only [argsE, List.cons_append, List.nil_append]
  repeat' (first | (refine tl_is (.func 15) ?_; refine qC rfl rfl (wakes06_spec _) ?_; rintro v ρ' L' hle ⟨rfl, hle1, rfl⟩ <;> (try simp only [List.cons_append, List.nil_append, List.append_eq])) | (refine i_op ?_; first | (refine iMv ?_; refine qMv ?_) | (refine iLd ?_; refine qLd ?_) | (refine iFa ?_; refine qFa ?_) | (refine iAd ?_; refine qAd ?_) | (refine iSb ?_; refine qSb ?_) | (refine iMl ?_; refine qMl ?_) | (refine iRm ?_; refine qRm ?_) | (refine iQu ?_; refine qQu ?_) | (refine iSr ?_; refine qSr ?_) | (refine iSh ?_; refine qSh ?_) | (refine iCm ?_; refine qCm ?_) | (refine iEx ?_; refine qEx ?_) | (refine iAs ?_; refine qAs ?_) | (refine iPk ?_; refine qPk ?_) | (refine iNc ?_; refine qNc ?_) | (refine iIa ?_; refine qIa ?_) | (refine iCv ?_; refine qCv ?_) | (refine iBi ?_; refine qBi ?_) | (refine iUn ?_; refine qUn ?_) | (refine iFl ?_; refine qFl ?_) | (refine iLu ?_; refine qLu ?_) | (refine iBu ?_; refine qBu ?_) | (refine iSl ?_; refine qSl ?_) | (refine iMf ?_; refine qMf ?_) | (refine iMi ?_; refine qMi ?_) | (refine iTa ?_; refine qTa ?_) | (refine iSt ?_; refine qSt ?_) | (refine iAl ?_; first | refine qAlA (fun _ => ?_) | refine qAlS (fun _ => ?_)) | (refine iBx ?_; first | refine qBxA (fun _ => ?_) | refine qBxS (fun _ => ?_)) | (refine iMm ?_; refine qMm (fun _ => ?_)) | (refine iBs ?_; refine qBs (fun _ => ?_)) | (refine i_gd ?_; first | refine qWant ?_ | refine qSkip ?_ | refine qSkip0 ?_ | refine qSkipU ?_)) | refine tl_nil ?_ | refine tc_seq ?_ | refine tc_region ?_ | refine te_seq ?_ | (refine i_cond ?_; first | refine qCt ?_ | refine qCf ?_) | refine tc_block ?_ | refine te_block_normal ?_ | refine te_block_ret ?_ | refine te_then_ret ?_ | refine te_block_hit ?_ | (refine i_miss ?_; refine qMiss ?_) | refine te_then_exit ?_ | refine tc_exit ?_ | refine tc_ret ?_ | refine tc_skip ?_ | refine tc_scope ?_ | refine te_scope_normal ?_ | refine te_scope_exit ?_ | refine te_scope_ret ?_ | refine tc_label ?_)
  rename_i b2 b3
  refine tc_cut_k R [(4, _)] (fun (ζ : (Hp) × (Nat) × (Nat) × (CV) × (CV)) => [(5, .pointer (some ⟨ζ.2.1, 0, none⟩)), (6, .pointer (some ⟨ζ.2.2.1, 0, none⟩))]) (fun (ζ : (Hp) × (Nat) × (Nat) × (CV) × (CV)) => ζ.1) (fun (ζ : (Hp) × (Nat) × (Nat) × (CV) × (CV)) => [[(ζ.2.1, .cells ⟨contV c1.kind ζ.2.2.2.1⟩ 38 (0, 0))], [(ζ.2.2.1, .cells ⟨contV c2.kind ζ.2.2.2.2⟩ 38 (0, 0))]]) (fun (ζ : (Hp) × (Nat) × (Nat) × (CV) × (CV)) => ρ.le ζ.1 ∧ CIn ζ.1 ζ.2.2.2.1 (fewC c1).rows (fewC c1).kids ∧ CIn ζ.1 ζ.2.2.2.2 (fewC c2).rows (fewC c2).kids) ev_le ?_ ?_
  · refine tc_any (Stays _ _ ([[(b2, .cells ⟨contV c1.kind w1⟩ 38 (0, 0))], [(b3, .cells ⟨contV c2.kind w2⟩ 38 (0, 0))]])) (stays_of (Hp.le_refl _)) ?_
    all_goals refine rLd 0 ?_
    all_goals refine rLd 2 ?_
    all_goals (refine rStep3 (i := 1) (j := 4) (k := 5) ?_ ?_ ?_ <;> ((try refine qWant ?_); (first | (refine tl_is (.func 29) ?_; refine qC rfl rfl (hw1 _ (h1.mono (by assumption))) ?_; rintro v ρ' L' hle ⟨hle2, v1, rfl, hC1, rfl⟩ <;> (try simp only [List.cons_append, List.nil_append, List.append_eq])) | (refine tl_is (.func 29) ?_; refine qC rfl rfl (hw2 _ (h2.mono (Hp.le_trans hle1 hle2))) ?_; rintro v ρ' L' hle ⟨hle3, v2, rfl, hC2, rfl⟩ <;> (try simp only [List.cons_append, List.nil_append, List.append_eq])) | (refine iSt ?_; refine qSt ?_) | (refine iAl ?_; first | refine qAlA (fun _ => ?_) | refine qAlS (fun _ => ?_)) | (refine iBx ?_; first | refine qBxA (fun _ => ?_) | refine qBxS (fun _ => ?_)) | (refine iMm ?_; refine qMm (fun _ => ?_)) | (refine iBs ?_; refine qBs (fun _ => ?_))); (try simp only [List.cons_append, List.nil_append, List.append_eq]); refine tl_nil ?_; refine rNext ?_))
    all_goals (first | (refine rStep3 (i := 3) (j := 4) (k := 5) ?_ ?_ ?_ <;> ((try refine qWant ?_); (first | (refine tl_is (.func 29) ?_; refine qC rfl rfl (hw1 _ (h1.mono (by assumption))) ?_; rintro v ρ' L' hle ⟨hle2, v1, rfl, hC1, rfl⟩ <;> (try simp only [List.cons_append, List.nil_append, List.append_eq])) | (refine tl_is (.func 29) ?_; refine qC rfl rfl (hw2 _ (h2.mono (Hp.le_trans hle1 hle2))) ?_; rintro v ρ' L' hle ⟨hle3, v2, rfl, hC2, rfl⟩ <;> (try simp only [List.cons_append, List.nil_append, List.append_eq])) | (refine iSt ?_; refine qSt ?_) | (refine iAl ?_; first | refine qAlA (fun _ => ?_) | refine qAlS (fun _ => ?_)) | (refine iBx ?_; first | refine qBxA (fun _ => ?_) | refine qBxS (fun _ => ?_)) | (refine iMm ?_; refine qMm (fun _ => ?_)) | (refine iBs ?_; refine qBs (fun _ => ?_))); (try simp only [List.cons_append, List.nil_append, List.append_eq]); refine tl_nil ?_; refine rNext ?_)) | (refine rStep2 (i := 1) (j := 5) ?_ ?_ <;> ((try refine qWant ?_); (first | (refine tl_is (.func 29) ?_; refine qC rfl rfl (hw1 _ (h1.mono (by assumption))) ?_; rintro v ρ' L' hle ⟨hle2, v1, rfl, hC1, rfl⟩ <;> (try simp only [List.cons_append, List.nil_append, List.append_eq])) | (refine tl_is (.func 29) ?_; refine qC rfl rfl (hw2 _ (h2.mono (Hp.le_trans hle1 hle2))) ?_; rintro v ρ' L' hle ⟨hle3, v2, rfl, hC2, rfl⟩ <;> (try simp only [List.cons_append, List.nil_append, List.append_eq])) | (refine iSt ?_; refine qSt ?_) | (refine iAl ?_; first | refine qAlA (fun _ => ?_) | refine qAlS (fun _ => ?_)) | (refine iBx ?_; first | refine qBxA (fun _ => ?_) | refine qBxS (fun _ => ?_)) | (refine iMm ?_; refine qMm (fun _ => ?_)) | (refine iBs ?_; refine qBs (fun _ => ?_))); (try simp only [List.cons_append, List.nil_append, List.append_eq]); refine tl_nil ?_; refine rNext ?_)) | (refine rStep2 (i := 1) (j := 4) ?_ ?_ <;> ((try refine qWant ?_); (first | (refine tl_is (.func 29) ?_; refine qC rfl rfl (hw1 _ (h1.mono (by assumption))) ?_; rintro v ρ' L' hle ⟨hle2, v1, rfl, hC1, rfl⟩ <;> (try simp only [List.cons_append, List.nil_append, List.append_eq])) | (refine tl_is (.func 29) ?_; refine qC rfl rfl (hw2 _ (h2.mono (Hp.le_trans hle1 hle2))) ?_; rintro v ρ' L' hle ⟨hle3, v2, rfl, hC2, rfl⟩ <;> (try simp only [List.cons_append, List.nil_append, List.append_eq])) | (refine iSt ?_; refine qSt ?_) | (refine iAl ?_; first | refine qAlA (fun _ => ?_) | refine qAlS (fun _ => ?_)) | (refine iBx ?_; first | refine qBxA (fun _ => ?_) | refine qBxS (fun _ => ?_)) | (refine iMm ?_; refine qMm (fun _ => ?_)) | (refine iBs ?_; refine qBs (fun _ => ?_))); (try simp only [List.cons_append, List.nil_append, List.append_eq]); refine tl_nil ?_; refine rNext ?_)))
    all_goals (first | (refine rStep2 (i := 4) (j := 5) ?_ ?_ <;> ((try refine qWant ?_); (first | (refine tl_is (.func 29) ?_; refine qC rfl rfl (hw1 _ (h1.mono (by assumption))) ?_; rintro v ρ' L' hle ⟨hle2, v1, rfl, hC1, rfl⟩ <;> (try simp only [List.cons_append, List.nil_append, List.append_eq])) | (refine tl_is (.func 29) ?_; refine qC rfl rfl (hw2 _ (h2.mono (Hp.le_trans hle1 hle2))) ?_; rintro v ρ' L' hle ⟨hle3, v2, rfl, hC2, rfl⟩ <;> (try simp only [List.cons_append, List.nil_append, List.append_eq])) | (refine iSt ?_; refine qSt ?_) | (refine iAl ?_; first | refine qAlA (fun _ => ?_) | refine qAlS (fun _ => ?_)) | (refine iBx ?_; first | refine qBxA (fun _ => ?_) | refine qBxS (fun _ => ?_)) | (refine iMm ?_; refine qMm (fun _ => ?_)) | (refine iBs ?_; refine qBs (fun _ => ?_))); (try simp only [List.cons_append, List.nil_append, List.append_eq]); refine tl_nil ?_; refine rNext ?_)) | (refine rStep2 (i := 3) (j := 5) ?_ ?_ <;> ((try refine qWant ?_); (first | (refine tl_is (.func 29) ?_; refine qC rfl rfl (hw1 _ (h1.mono (by assumption))) ?_; rintro v ρ' L' hle ⟨hle2, v1, rfl, hC1, rfl⟩ <;> (try simp only [List.cons_append, List.nil_append, List.append_eq])) | (refine tl_is (.func 29) ?_; refine qC rfl rfl (hw2 _ (h2.mono (Hp.le_trans hle1 hle2))) ?_; rintro v ρ' L' hle ⟨hle3, v2, rfl, hC2, rfl⟩ <;> (try simp only [List.cons_append, List.nil_append, List.append_eq])) | (refine iSt ?_; refine qSt ?_) | (refine iAl ?_; first | refine qAlA (fun _ => ?_) | refine qAlS (fun _ => ?_)) | (refine iBx ?_; first | refine qBxA (fun _ => ?_) | refine qBxS (fun _ => ?_)) | (refine iMm ?_; refine qMm (fun _ => ?_)) | (refine iBs ?_; refine qBs (fun _ => ?_))); (try simp only [List.cons_append, List.nil_append, List.append_eq]); refine tl_nil ?_; refine rNext ?_)) | (refine rStep2 (i := 3) (j := 4) ?_ ?_ <;> ((try refine qWant ?_); (first | (refine tl_is (.func 29) ?_; refine qC rfl rfl (hw1 _ (h1.mono (by assumption))) ?_; rintro v ρ' L' hle ⟨hle2, v1, rfl, hC1, rfl⟩ <;> (try simp only [List.cons_append, List.nil_append, List.append_eq])) | (refine tl_is (.func 29) ?_; refine qC rfl rfl (hw2 _ (h2.mono (Hp.le_trans hle1 hle2))) ?_; rintro v ρ' L' hle ⟨hle3, v2, rfl, hC2, rfl⟩ <;> (try simp only [List.cons_append, List.nil_append, List.append_eq])) | (refine iSt ?_; refine qSt ?_) | (refine iAl ?_; first | refine qAlA (fun _ => ?_) | refine qAlS (fun _ => ?_)) | (refine iBx ?_; first | refine qBxA (fun _ => ?_) | refine qBxS (fun _ => ?_)) | (refine iMm ?_; refine qMm (fun _ => ?_)) | (refine iBs ?_; refine qBs (fun _ => ?_))); (try simp only [List.cons_append, List.nil_append, List.append_eq]); refine tl_nil ?_; refine rNext ?_)) | (refine rStep (i := 1) ?_; ((try refine qWant ?_); (first | (refine tl_is (.func 29) ?_; refine qC rfl rfl (hw1 _ (h1.mono (by assumption))) ?_; rintro v ρ' L' hle ⟨hle2, v1, rfl, hC1, rfl⟩ <;> (try simp only [List.cons_append, List.nil_append, List.append_eq])) | (refine tl_is (.func 29) ?_; refine qC rfl rfl (hw2 _ (h2.mono (Hp.le_trans hle1 hle2))) ?_; rintro v ρ' L' hle ⟨hle3, v2, rfl, hC2, rfl⟩ <;> (try simp only [List.cons_append, List.nil_append, List.append_eq])) | (refine iSt ?_; refine qSt ?_) | (refine iAl ?_; first | refine qAlA (fun _ => ?_) | refine qAlS (fun _ => ?_)) | (refine iBx ?_; first | refine qBxA (fun _ => ?_) | refine qBxS (fun _ => ?_)) | (refine iMm ?_; refine qMm (fun _ => ?_)) | (refine iBs ?_; refine qBs (fun _ => ?_))); (try simp only [List.cons_append, List.nil_append, List.append_eq]); refine tl_nil ?_; refine rNext ?_)))
    all_goals (first | (refine rStep (i := 5) ?_; ((try refine qWant ?_); (first | (refine tl_is (.func 29) ?_; refine qC rfl rfl (hw1 _ (h1.mono (by assumption))) ?_; rintro v ρ' L' hle ⟨hle2, v1, rfl, hC1, rfl⟩ <;> (try simp only [List.cons_append, List.nil_append, List.append_eq])) | (refine tl_is (.func 29) ?_; refine qC rfl rfl (hw2 _ (h2.mono (Hp.le_trans hle1 hle2))) ?_; rintro v ρ' L' hle ⟨hle3, v2, rfl, hC2, rfl⟩ <;> (try simp only [List.cons_append, List.nil_append, List.append_eq])) | (refine iSt ?_; refine qSt ?_) | (refine iAl ?_; first | refine qAlA (fun _ => ?_) | refine qAlS (fun _ => ?_)) | (refine iBx ?_; first | refine qBxA (fun _ => ?_) | refine qBxS (fun _ => ?_)) | (refine iMm ?_; refine qMm (fun _ => ?_)) | (refine iBs ?_; refine qBs (fun _ => ?_))); (try simp only [List.cons_append, List.nil_append, List.append_eq]); refine tl_nil ?_; refine rNext ?_)) | (refine rStep (i := 4) ?_; ((try refine qWant ?_); (first | (refine tl_is (.func 29) ?_; refine qC rfl rfl (hw1 _ (h1.mono (by assumption))) ?_; rintro v ρ' L' hle ⟨hle2, v1, rfl, hC1, rfl⟩ <;> (try simp only [List.cons_append, List.nil_append, List.append_eq])) | (refine tl_is (.func 29) ?_; refine qC rfl rfl (hw2 _ (h2.mono (Hp.le_trans hle1 hle2))) ?_; rintro v ρ' L' hle ⟨hle3, v2, rfl, hC2, rfl⟩ <;> (try simp only [List.cons_append, List.nil_append, List.append_eq])) | (refine iSt ?_; refine qSt ?_) | (refine iAl ?_; first | refine qAlA (fun _ => ?_) | refine qAlS (fun _ => ?_)) | (refine iBx ?_; first | refine qBxA (fun _ => ?_) | refine qBxS (fun _ => ?_)) | (refine iMm ?_; refine qMm (fun _ => ?_)) | (refine iBs ?_; refine qBs (fun _ => ?_))); (try simp only [List.cons_append, List.nil_append, List.append_eq]); refine tl_nil ?_; refine rNext ?_)) | (refine rStep (i := 3) ?_; ((try refine qWant ?_); (first | (refine tl_is (.func 29) ?_; refine qC rfl rfl (hw1 _ (h1.mono (by assumption))) ?_; rintro v ρ' L' hle ⟨hle2, v1, rfl, hC1, rfl⟩ <;> (try simp only [List.cons_append, List.nil_append, List.append_eq])) | (refine tl_is (.func 29) ?_; refine qC rfl rfl (hw2 _ (h2.mono (Hp.le_trans hle1 hle2))) ?_; rintro v ρ' L' hle ⟨hle3, v2, rfl, hC2, rfl⟩ <;> (try simp only [List.cons_append, List.nil_append, List.append_eq])) | (refine iSt ?_; refine qSt ?_) | (refine iAl ?_; first | refine qAlA (fun _ => ?_) | refine qAlS (fun _ => ?_)) | (refine iBx ?_; first | refine qBxA (fun _ => ?_) | refine qBxS (fun _ => ?_)) | (refine iMm ?_; refine qMm (fun _ => ?_)) | (refine iBs ?_; refine qBs (fun _ => ?_))); (try simp only [List.cons_append, List.nil_append, List.append_eq]); refine tl_nil ?_; refine rNext ?_)))
    all_goals (refine rStep (i := 6) ?_; ((try refine qWant ?_); (first | (refine tl_is (.func 29) ?_; refine qC rfl rfl (hw1 _ (h1.mono (by assumption))) ?_; rintro v ρ' L' hle ⟨hle2, v1, rfl, hC1, rfl⟩ <;> (try simp only [List.cons_append, List.nil_append, List.append_eq])) | (refine tl_is (.func 29) ?_; refine qC rfl rfl (hw2 _ (h2.mono (Hp.le_trans hle1 hle2))) ?_; rintro v ρ' L' hle ⟨hle3, v2, rfl, hC2, rfl⟩ <;> (try simp only [List.cons_append, List.nil_append, List.append_eq])) | (refine iSt ?_; refine qSt ?_) | (refine iAl ?_; first | refine qAlA (fun _ => ?_) | refine qAlS (fun _ => ?_)) | (refine iBx ?_; first | refine qBxA (fun _ => ?_) | refine qBxS (fun _ => ?_)) | (refine iMm ?_; refine qMm (fun _ => ?_)) | (refine iBs ?_; refine qBs (fun _ => ?_))); (try simp only [List.cons_append, List.nil_append, List.append_eq]); refine tl_nil ?_; refine rNext ?_))
    all_goals (refine rStep (i := 7) ?_; ((try refine qWant ?_); (first | (refine tl_is (.func 29) ?_; refine qC rfl rfl (hw1 _ (h1.mono (by assumption))) ?_; rintro v ρ' L' hle ⟨hle2, v1, rfl, hC1, rfl⟩ <;> (try simp only [List.cons_append, List.nil_append, List.append_eq])) | (refine tl_is (.func 29) ?_; refine qC rfl rfl (hw2 _ (h2.mono (Hp.le_trans hle1 hle2))) ?_; rintro v ρ' L' hle ⟨hle3, v2, rfl, hC2, rfl⟩ <;> (try simp only [List.cons_append, List.nil_append, List.append_eq])) | (refine iSt ?_; refine qSt ?_) | (refine iAl ?_; first | refine qAlA (fun _ => ?_) | refine qAlS (fun _ => ?_)) | (refine iBx ?_; first | refine qBxA (fun _ => ?_) | refine qBxS (fun _ => ?_)) | (refine iMm ?_; refine qMm (fun _ => ?_)) | (refine iBs ?_; refine qBs (fun _ => ?_))); (try simp only [List.cons_append, List.nil_append, List.append_eq]); refine tl_nil ?_; refine rNext ?_))
    all_goals refine rDone ?_
    all_goals refine te_cut_g ((_, _, _, v1, v2)) (⟨Hp.le_trans hle1 (Hp.le_trans hle2 hle3), hC1.mono hle3, hC2⟩) ev_le ev_le rfl tk inferInstance
  · rintro ⟨ρ2, b5, b6, v1, v2⟩ ⟨hleA, hC1, hC2⟩
    simp only [List.cons_append, List.nil_append] at hleA hC1 hC2 ⊢
    have hce1 := fun ρ h => contE_spec ρ v1 (fewC c1) h (fun r hr => (g1.row r hr).id) g1.kid
    have hce2 := fun ρ h => contE_spec ρ v2 (fewC c2) h (fun r hr => (g2.row r hr).id) g2.kid
    have hsm := fun ρ h h' => same_spec ρ v1 v2 (fewC c1) (fewC c2) h h'
    rw [hk1] at hce1 hsm
    rw [hk2] at hce2 hsm
    have hap1 := fun hc hd => contB_apart (c := fewC c1) (d := fewC c2) hc hd g1 g2
    have hap2 := fun hc hd => contB_apart (c := fewC c2) (d := fewC c1) hc hd g2 g1
    generalize fewC c1 = x1 at *
    generalize fewC c2 = x2 at *
    cases ho1 : contOk x1
    · simp only [ho1, Bool.false_eq_true, if_false] at hce1
      cases ho2 : contOk x2
      all_goals simp only [ho2, Bool.false_eq_true, if_false, if_true] at hce2
      all_goals (repeat' (first | (refine tl_is (.func 20) ?_; refine qC rfl rfl (hce1 _ hC1) ?_; rintro v ρ' L' hle ⟨hle4, xa, xn, xc, rfl, hxc, hxs, rfl⟩ <;> (try simp only [List.cons_append, List.nil_append, List.append_eq])) | (refine tl_is (.func 20) ?_; refine qC rfl rfl (hce2 _ (hC2.mono hle4)) ?_; rintro v ρ' L' hle ⟨hle5, ya, yn, yc, rfl, hyc, hys, rfl⟩ <;> (try simp only [List.cons_append, List.nil_append, List.append_eq])) | (refine i_op ?_; first | (refine iMv ?_; refine qMv ?_) | (refine iLd ?_; refine qLd ?_) | (refine iFa ?_; refine qFa ?_) | (refine iAd ?_; refine qAd ?_) | (refine iSb ?_; refine qSb ?_) | (refine iMl ?_; refine qMl ?_) | (refine iRm ?_; refine qRm ?_) | (refine iQu ?_; refine qQu ?_) | (refine iSr ?_; refine qSr ?_) | (refine iSh ?_; refine qSh ?_) | (refine iCm ?_; refine qCm ?_) | (refine iEx ?_; refine qEx ?_) | (refine iAs ?_; refine qAs ?_) | (refine iPk ?_; refine qPk ?_) | (refine iNc ?_; refine qNc ?_) | (refine iIa ?_; refine qIa ?_) | (refine iCv ?_; refine qCv ?_) | (refine iBi ?_; refine qBi ?_) | (refine iUn ?_; refine qUn ?_) | (refine iFl ?_; refine qFl ?_) | (refine iLu ?_; refine qLu ?_) | (refine iBu ?_; refine qBu ?_) | (refine iSl ?_; refine qSl ?_) | (refine iMf ?_; refine qMf ?_) | (refine iMi ?_; refine qMi ?_) | (refine iTa ?_; refine qTa ?_) | (refine iSt ?_; refine qSt ?_) | (refine iAl ?_; first | refine qAlA (fun _ => ?_) | refine qAlS (fun _ => ?_)) | (refine iBx ?_; first | refine qBxA (fun _ => ?_) | refine qBxS (fun _ => ?_)) | (refine iMm ?_; refine qMm (fun _ => ?_)) | (refine iBs ?_; refine qBs (fun _ => ?_)) | (refine i_gd ?_; first | refine qWant ?_ | refine qSkip ?_ | refine qSkip0 ?_ | refine qSkipU ?_)) | refine tl_nil ?_ | refine tc_seq ?_ | refine tc_region ?_ | refine te_seq ?_ | (refine i_cond ?_; first | refine qCt ?_ | refine qCf ?_) | refine tc_block ?_ | refine te_block_normal ?_ | refine te_block_ret ?_ | refine te_then_ret ?_ | refine te_block_hit ?_ | (refine i_miss ?_; refine qMiss ?_) | refine te_then_exit ?_ | refine tc_exit ?_ | refine tc_ret ?_ | refine tc_skip ?_ | refine tc_scope ?_ | refine te_scope_normal ?_ | refine te_scope_exit ?_ | refine te_scope_ret ?_ | refine tc_label ?_))
      all_goals have hfin := Hp.le_trans hleA (Hp.le_trans hle4 hle5)
      all_goals exact qE ⟨rfl, hfin, rfl⟩
    · simp only [ho1, if_true] at hce1
      cases ho2 : contOk x2
      · simp only [ho2, Bool.false_eq_true, if_false] at hce2
        repeat' (first | (refine tl_is (.func 20) ?_; refine qC rfl rfl (hce1 _ hC1) ?_; rintro v ρ' L' hle ⟨hle4, xa, xn, xc, rfl, hxc, hxs, rfl⟩ <;> (try simp only [List.cons_append, List.nil_append, List.append_eq])) | (refine tl_is (.func 20) ?_; refine qC rfl rfl (hce2 _ (hC2.mono hle4)) ?_; rintro v ρ' L' hle ⟨hle5, ya, yn, yc, rfl, hyc, hys, rfl⟩ <;> (try simp only [List.cons_append, List.nil_append, List.append_eq])) | (refine i_op ?_; first | (refine iMv ?_; refine qMv ?_) | (refine iLd ?_; refine qLd ?_) | (refine iFa ?_; refine qFa ?_) | (refine iAd ?_; refine qAd ?_) | (refine iSb ?_; refine qSb ?_) | (refine iMl ?_; refine qMl ?_) | (refine iRm ?_; refine qRm ?_) | (refine iQu ?_; refine qQu ?_) | (refine iSr ?_; refine qSr ?_) | (refine iSh ?_; refine qSh ?_) | (refine iCm ?_; refine qCm ?_) | (refine iEx ?_; refine qEx ?_) | (refine iAs ?_; refine qAs ?_) | (refine iPk ?_; refine qPk ?_) | (refine iNc ?_; refine qNc ?_) | (refine iIa ?_; refine qIa ?_) | (refine iCv ?_; refine qCv ?_) | (refine iBi ?_; refine qBi ?_) | (refine iUn ?_; refine qUn ?_) | (refine iFl ?_; refine qFl ?_) | (refine iLu ?_; refine qLu ?_) | (refine iBu ?_; refine qBu ?_) | (refine iSl ?_; refine qSl ?_) | (refine iMf ?_; refine qMf ?_) | (refine iMi ?_; refine qMi ?_) | (refine iTa ?_; refine qTa ?_) | (refine iSt ?_; refine qSt ?_) | (refine iAl ?_; first | refine qAlA (fun _ => ?_) | refine qAlS (fun _ => ?_)) | (refine iBx ?_; first | refine qBxA (fun _ => ?_) | refine qBxS (fun _ => ?_)) | (refine iMm ?_; refine qMm (fun _ => ?_)) | (refine iBs ?_; refine qBs (fun _ => ?_)) | (refine i_gd ?_; first | refine qWant ?_ | refine qSkip ?_ | refine qSkip0 ?_ | refine qSkipU ?_)) | refine tl_nil ?_ | refine tc_seq ?_ | refine tc_region ?_ | refine te_seq ?_ | (refine i_cond ?_; first | refine qCt ?_ | refine qCf ?_) | refine tc_block ?_ | refine te_block_normal ?_ | refine te_block_ret ?_ | refine te_then_ret ?_ | refine te_block_hit ?_ | (refine i_miss ?_; refine qMiss ?_) | refine te_then_exit ?_ | refine tc_exit ?_ | refine tc_ret ?_ | refine tc_skip ?_ | refine tc_scope ?_ | refine te_scope_normal ?_ | refine te_scope_exit ?_ | refine te_scope_ret ?_ | refine tc_label ?_)
        have hfin := Hp.le_trans hleA (Hp.le_trans hle4 hle5)
        exact qE ⟨rfl, hfin, rfl⟩
      · simp only [ho2, if_true] at hce2
        by_cases he : x1 = x2
        · have hb : contB x1 = contB x2 := by rw [he]
          rw [decide_eq_true he] at hsm
          repeat' (first | (refine tl_is (.func 20) ?_; refine qC rfl rfl (hce1 _ hC1) ?_; rintro v ρ' L' hle ⟨hle4, xa, xn, xc, rfl, hxc, hxs, rfl⟩ <;> (try simp only [List.cons_append, List.nil_append, List.append_eq])) | (refine tl_is (.func 20) ?_; refine qC rfl rfl (hce2 _ (hC2.mono hle4)) ?_; rintro v ρ' L' hle ⟨hle5, ya, yn, yc, rfl, hyc, hys, rfl⟩ <;> (try simp only [List.cons_append, List.nil_append, List.append_eq])) | (refine tl_is (.func 32) ?_; refine qC rfl rfl (hsm _ (hC1.mono (Hp.le_trans hle4 hle5)) (hC2.mono (Hp.le_trans hle4 hle5))) ?_; rintro v ρ' L' hle ⟨rfl, rfl, rfl⟩ <;> (try simp only [List.cons_append, List.nil_append, List.append_eq])) | (refine tl_is (.func 18) ?_; refine qC rfl rfl (bytesEq_spec _ _ _ _ _ _ _ _ _ (hxs.mono hle5) hys) ?_; rintro v ρ' L' hle ⟨rfl, rfl, rfl⟩ <;> (try simp only [List.cons_append, List.nil_append, List.append_eq, hb, decide_true])) | (refine i_op ?_; first | (refine iMv ?_; refine qMv ?_) | (refine iLd ?_; refine qLd ?_) | (refine iFa ?_; refine qFa ?_) | (refine iAd ?_; refine qAd ?_) | (refine iSb ?_; refine qSb ?_) | (refine iMl ?_; refine qMl ?_) | (refine iRm ?_; refine qRm ?_) | (refine iQu ?_; refine qQu ?_) | (refine iSr ?_; refine qSr ?_) | (refine iSh ?_; refine qSh ?_) | (refine iCm ?_; refine qCm ?_) | (refine iEx ?_; refine qEx ?_) | (refine iAs ?_; refine qAs ?_) | (refine iPk ?_; refine qPk ?_) | (refine iNc ?_; refine qNc ?_) | (refine iIa ?_; refine qIa ?_) | (refine iCv ?_; refine qCv ?_) | (refine iBi ?_; refine qBi ?_) | (refine iUn ?_; refine qUn ?_) | (refine iFl ?_; refine qFl ?_) | (refine iLu ?_; refine qLu ?_) | (refine iBu ?_; refine qBu ?_) | (refine iSl ?_; refine qSl ?_) | (refine iMf ?_; refine qMf ?_) | (refine iMi ?_; refine qMi ?_) | (refine iTa ?_; refine qTa ?_) | (refine iSt ?_; refine qSt ?_) | (refine iAl ?_; first | refine qAlA (fun _ => ?_) | refine qAlS (fun _ => ?_)) | (refine iBx ?_; first | refine qBxA (fun _ => ?_) | refine qBxS (fun _ => ?_)) | (refine iMm ?_; refine qMm (fun _ => ?_)) | (refine iBs ?_; refine qBs (fun _ => ?_)) | (refine i_gd ?_; first | refine qWant ?_ | refine qSkip ?_ | refine qSkip0 ?_ | refine qSkipU ?_)) | refine tl_nil ?_ | refine tc_seq ?_ | refine tc_region ?_ | refine te_seq ?_ | (refine i_cond ?_; first | refine qCt ?_ | refine qCf ?_) | refine tc_block ?_ | refine te_block_normal ?_ | refine te_block_ret ?_ | refine te_then_ret ?_ | refine te_block_hit ?_ | (refine i_miss ?_; refine qMiss ?_) | refine te_then_exit ?_ | refine tc_exit ?_ | refine tc_ret ?_ | refine tc_skip ?_ | refine tc_scope ?_ | refine te_scope_normal ?_ | refine te_scope_exit ?_ | refine te_scope_ret ?_ | refine tc_label ?_)
          have hfin := Hp.le_trans hleA (Hp.le_trans hle4 hle5)
          exact qE ⟨rfl, hfin, rfl⟩
        · have hp1 : decide (contB x2 <+: contB x1) = false := decide_eq_false (fun h => he (hap1 ho1 ho2 h))
          have hp2 : decide (contB x1 <+: contB x2) = false := decide_eq_false (fun h => he (hap2 ho2 ho1 h).symm)
          rw [decide_eq_false he] at hsm
          repeat' (first | (refine tl_is (.func 20) ?_; refine qC rfl rfl (hce1 _ hC1) ?_; rintro v ρ' L' hle ⟨hle4, xa, xn, xc, rfl, hxc, hxs, rfl⟩ <;> (try simp only [List.cons_append, List.nil_append, List.append_eq])) | (refine tl_is (.func 20) ?_; refine qC rfl rfl (hce2 _ (hC2.mono hle4)) ?_; rintro v ρ' L' hle ⟨hle5, ya, yn, yc, rfl, hyc, hys, rfl⟩ <;> (try simp only [List.cons_append, List.nil_append, List.append_eq])) | (refine tl_is (.func 32) ?_; refine qC rfl rfl (hsm _ (hC1.mono (Hp.le_trans hle4 hle5)) (hC2.mono (Hp.le_trans hle4 hle5))) ?_; rintro v ρ' L' hle ⟨rfl, rfl, rfl⟩ <;> (try simp only [List.cons_append, List.nil_append, List.append_eq])) | (refine tl_is (.func 39) ?_; refine qC rfl rfl (hasPre_spec _ _ _ _ _ _ _ _ _ (hxs.mono hle5) hys hxc) ?_; rintro v ρ' L' hle ⟨rfl, rfl, rfl⟩ <;> (try simp only [List.cons_append, List.nil_append, List.append_eq, hp1])) | (refine tl_is (.func 39) ?_; refine qC rfl rfl (hasPre_spec _ _ _ _ _ _ _ _ _ hys (hxs.mono hle5) hyc) ?_; rintro v ρ' L' hle ⟨rfl, rfl, rfl⟩ <;> (try simp only [List.cons_append, List.nil_append, List.append_eq, hp2])) | (refine i_op ?_; first | (refine iMv ?_; refine qMv ?_) | (refine iLd ?_; refine qLd ?_) | (refine iFa ?_; refine qFa ?_) | (refine iAd ?_; refine qAd ?_) | (refine iSb ?_; refine qSb ?_) | (refine iMl ?_; refine qMl ?_) | (refine iRm ?_; refine qRm ?_) | (refine iQu ?_; refine qQu ?_) | (refine iSr ?_; refine qSr ?_) | (refine iSh ?_; refine qSh ?_) | (refine iCm ?_; refine qCm ?_) | (refine iEx ?_; refine qEx ?_) | (refine iAs ?_; refine qAs ?_) | (refine iPk ?_; refine qPk ?_) | (refine iNc ?_; refine qNc ?_) | (refine iIa ?_; refine qIa ?_) | (refine iCv ?_; refine qCv ?_) | (refine iBi ?_; refine qBi ?_) | (refine iUn ?_; refine qUn ?_) | (refine iFl ?_; refine qFl ?_) | (refine iLu ?_; refine qLu ?_) | (refine iBu ?_; refine qBu ?_) | (refine iSl ?_; refine qSl ?_) | (refine iMf ?_; refine qMf ?_) | (refine iMi ?_; refine qMi ?_) | (refine iTa ?_; refine qTa ?_) | (refine iSt ?_; refine qSt ?_) | (refine iAl ?_; first | refine qAlA (fun _ => ?_) | refine qAlS (fun _ => ?_)) | (refine iBx ?_; first | refine qBxA (fun _ => ?_) | refine qBxS (fun _ => ?_)) | (refine iMm ?_; refine qMm (fun _ => ?_)) | (refine iBs ?_; refine qBs (fun _ => ?_)) | (refine i_gd ?_; first | refine qWant ?_ | refine qSkip ?_ | refine qSkip0 ?_ | refine qSkipU ?_)) | refine tl_nil ?_ | refine tc_seq ?_ | refine tc_region ?_ | refine te_seq ?_ | (refine i_cond ?_; first | refine qCt ?_ | refine qCf ?_) | refine tc_block ?_ | refine te_block_normal ?_ | refine te_block_ret ?_ | refine te_then_ret ?_ | refine te_block_hit ?_ | (refine i_miss ?_; refine qMiss ?_) | refine te_then_exit ?_ | refine tc_exit ?_ | refine tc_ret ?_ | refine tc_skip ?_ | refine tc_scope ?_ | refine te_scope_normal ?_ | refine te_scope_exit ?_ | refine te_scope_ret ?_ | refine tc_label ?_)
          have hfin := Hp.le_trans hleA (Hp.le_trans hle4 hle5)
          exact qE ⟨rfl, hfin, rfl⟩
end Go.Proofs.E

namespace Go.Proofs.E
open Go Go.RowKit
set_option linter.unusedVariables false
set_option linter.unusedSimpArgs false
set_option linter.unusedSectionVars false
set_option maxRecDepth 8000
/-! ## rows, kids, contents that came in -/
theorem rs_flat {α : Type} {sz : Nat} {g : α → List Value} {C : List Value} {off : Nat} : ∀ (l : List α) (k : Nat), k ≤ l.length → (∀ i (h : i < l.length), (C.drop (off + i * sz)).take sz = g l[i]) → (C.drop off).take (k * sz) = ((l.take k).map g).flatten
  | l, 0, _, _ => by simp
  | l, k + 1, hk, h => by
    have ih := rs_flat l k (by omega) h
    rw [show l.take (k + 1) = l.take k ++ [l[k]'(by omega)] from List.take_succ_eq_append_getElem (by omega), Nat.add_mul, Nat.one_mul, List.take_add, ih, List.drop_drop, h k (by omega)]
    simp only [List.map_append, List.flatten_append, List.map_cons, List.map_nil, List.flatten_cons, List.flatten_nil, List.append_nil]
theorem aIn_of {ρ : Hp} {α : Type} {sz : Nat} {g : α → List Value} {P : α → Prop} {cs : List Value} {s : Option Addr × Nat × Nat × List α} (hg : ∀ x, (g x).length = sz) (h : RS ρ sz (fun cs x => cs = g x ∧ P x) cs s) : AIn ρ sz g s.1 s.2.1 s.2.2.2 ∧ (∀ x ∈ s.2.2.2, P x) ∧ s.2.1 ≤ s.2.2.1 ∧ s.2.1 ≤ 9223372036854775807 := by
  obtain ⟨a, n, c, ks⟩ := s
  obtain ⟨h1, h2, h3, h4, h5⟩ := h
  dsimp only at h1 h2 h3 h4 h5 ⊢
  refine ⟨⟨h4, ?_, fun x _ => hg x⟩, fun x hx => ?_, h2, by omega⟩
  · by_cases h0 : n = 0
    · exact .inl h0
    · right
      obtain ⟨b, off, C, T, fr, e1, e2, e3, e4⟩ := h5 0 (by omega)
      have same : ∀ i (h : i < ks.length), off + i * sz + sz ≤ C.length ∧ (C.drop (off + i * sz)).take sz = g ks[i] := fun i hi => by
        obtain ⟨b', off', C', T', fr', f1, f2, f3, f4⟩ := h5 i hi
        rw [e1] at f1
        cases f1
        rw [e2] at f2
        cases f2
        exact ⟨f3, f4.1⟩
      refine ⟨b, off, C, T, fr, e1, e2, ?_, ?_⟩
      · have := (same (n - 1) (by omega)).1
        have e : n * sz = (n - 1) * sz + sz := by
          obtain ⟨m, rfl⟩ : ∃ m, n = m + 1 := ⟨n - 1, by omega⟩
          rw [Nat.add_mul]; simp
        omega
      · have := rs_flat (sz := sz) (g := g) ks n (by omega) (fun i hi => (same i hi).2)
        rw [this, List.take_of_length_le (by omega)]
  · obtain ⟨i, hi, rfl⟩ := List.mem_iff_getElem.1 hx
    obtain ⟨_, _, _, _, _, _, _, _, f⟩ := h5 i hi
    exact f.2
section
variable {H : Type} {enc : TypeId × Value → H} {w : World}
theorem opn_str : Opn enc Try.prog w 9 (fun cs (l : List UInt8) => cs = [strV l]) := fun fuel cs x h => by
  obtain ⟨s, rfl, _, _⟩ := DataW.trod_string Try.underlying9 h
  obtain ⟨⟨l⟩⟩ := s
  exact ⟨l, rfl⟩
theorem opn_key : Opn enc Try.prog w 26 (fun cs (k : Int × Nat) => cs = keyV k.1 k.2 ∧ k.2 < 65536) := fun fuel cs x h => by
  obtain ⟨hl, hf⟩ := opn_fields Try.underlying26 h
  have hl : cs.length = 2 := by rw [hl]; kernel_rfl
  obtain ⟨c0, c1, rfl⟩ : ∃ c0 c1, cs = [c0, c1] := by
    match cs, hl with
    | [c0, c1], _ => exact ⟨c0, c1, rfl⟩
  obtain ⟨t, h0, _⟩ := opn_field h Try.underlying26 0 0 1 rfl rfl rfl (by kernel_rfl) (opn_int Try.underlying3)
  obtain ⟨i, h1, i0, i1⟩ := opn_field h Try.underlying26 1 1 1 rfl rfl rfl (by kernel_rfl) (opn_int Try.underlying24)
  simp only [List.drop_zero, List.drop_succ_cons, List.take_succ_cons, List.take_zero, List.cons.injEq, and_true] at h0 h1
  subst h0; subst h1
  simp only [lo, hi] at i0 i1
  refine ⟨(t, i.toNat), ?_, by dsimp only; omega⟩
  have : ((i.toNat : Nat) : Int) = i := by omega
  simp only [keyV, this]
theorem opn_row : Opn enc Try.prog w 28 (fun cs (r : Row) => cs = rowV r ∧ RowFit r) := fun fuel cs x h => by
  obtain ⟨hl, hf⟩ := opn_fields Try.underlying28 h
  have hl : cs.length = 4 := by rw [hl]; kernel_rfl
  obtain ⟨c0, c1, c2, c3, rfl⟩ : ∃ c0 c1 c2 c3, cs = [c0, c1, c2, c3] := by
    match cs, hl with
    | [c0, c1, c2, c3], _ => exact ⟨c0, c1, c2, c3, rfl⟩
  obtain ⟨⟨t, i⟩, h0, hi0⟩ := opn_field h Try.underlying28 0 0 2 rfl rfl rfl (by kernel_rfl) opn_key
  obtain ⟨v, h1, v0, v1⟩ := opn_field h Try.underlying28 1 2 1 rfl rfl rfl (by kernel_rfl) (opn_int Try.underlying2)
  obtain ⟨s, h2⟩ := opn_field h Try.underlying28 2 3 1 rfl rfl rfl (by kernel_rfl) opn_str
  simp only [List.drop_zero, List.drop_succ_cons, List.take_succ_cons, List.take_zero, List.cons.injEq, and_true, keyV] at h0 h1 h2
  obtain ⟨rfl, rfl⟩ := h0
  subst h1; subst h2
  simp only [lo, hi] at v0 v1
  exact ⟨⟨t, i, v, s⟩, rfl, ⟨hi0, v0, v1⟩⟩
theorem opn_kid : Opn enc Try.prog w 134 (fun cs (k : Kid) => cs = kidV k ∧ k.id < 65536) := fun fuel cs x h => by
  obtain ⟨hl, hf⟩ := opn_fields Try.underlying134 h
  have hl : cs.length = 3 := by rw [hl]; kernel_rfl
  obtain ⟨c0, c1, c2, rfl⟩ : ∃ c0 c1 c2, cs = [c0, c1, c2] := by
    match cs, hl with
    | [c0, c1, c2], _ => exact ⟨c0, c1, c2, rfl⟩
  obtain ⟨⟨t, i⟩, h0, hi0⟩ := opn_field h Try.underlying134 0 0 2 rfl rfl rfl (by kernel_rfl) opn_key
  obtain ⟨v, h1, _⟩ := opn_field h Try.underlying134 1 2 1 rfl rfl rfl (by kernel_rfl) (opn_int Try.underlying3)
  simp only [List.drop_zero, List.drop_succ_cons, List.take_succ_cons, List.take_zero, List.cons.injEq, and_true, keyV] at h0 h1
  obtain ⟨rfl, rfl⟩ := h0
  subst h1
  exact ⟨⟨t, i, v⟩, rfl, hi0⟩
structure ContI (ρ : Hp) (x : CV × Cont) : Prop where
  c : CInW ρ x.1 x.2.rows x.2.kids
  row : ∀ r ∈ x.2.rows, RowFit r
  kid : ∀ k ∈ x.2.kids, k.id < 65536
theorem opn_cont : Opn enc Try.prog w 38 (fun cs (x : CV × Cont) => cs = contV x.2.kind x.1 ∧ ContI (hpOf w) x) := fun fuel cs x h => by
  obtain ⟨hl, hf⟩ := opn_fields Try.underlying38 h
  have hl : cs.length = 3 := by rw [hl]; kernel_rfl
  obtain ⟨c0, c1, c2, rfl⟩ : ∃ c0 c1 c2, cs = [c0, c1, c2] := by
    match cs, hl with
    | [c0, c1, c2], _ => exact ⟨c0, c1, c2, rfl⟩
  obtain ⟨k, h0, _⟩ := opn_field h Try.underlying38 0 0 1 rfl rfl rfl (by kernel_rfl) (opn_int Try.underlying3)
  obtain ⟨⟨ra, rn, rc, rows⟩, h1⟩ := opn_field h Try.underlying38 1 1 1 rfl rfl rfl (by kernel_rfl) (opn_slice (sz := 4) Try.underlying35 (by kernel_rfl) (by decide) opn_row)
  obtain ⟨⟨ka, kn, kc, kids⟩, h2⟩ := opn_field h Try.underlying38 2 2 1 rfl rfl rfl (by kernel_rfl) (opn_slice (sz := 3) Try.underlying36 (by kernel_rfl) (by decide) opn_kid)
  obtain ⟨g1, g2, g3, g4⟩ := aIn_of rowV_len h1
  obtain ⟨k1, k2, k3, k4⟩ := aIn_of kidV_len h2
  replace h1 := h1.cells
  replace h2 := h2.cells
  simp only [List.drop_zero, List.drop_succ_cons, List.take_succ_cons, List.take_zero, List.cons.injEq, and_true] at h0 h1 h2
  subst h0; subst h1; subst h2
  exact ⟨(⟨ra, rn, rc, ka, kn, kc⟩, ⟨k, rows, kids⟩), rfl, ⟨⟨g1, k1, g4, k4, g3, k3⟩, g2, k2⟩⟩
end
end Go.Proofs.E

namespace Go.Proofs.E
open Go
set_option linter.unusedVariables false
set_option linter.unusedSimpArgs false
set_option linter.unusedSectionVars false
set_option maxRecDepth 4000
set_option maxHeartbeats 1000000
attribute [local irreducible] Yl TL TC TE Spec YSpec R1 Hp.le EnvLe TS TR YS Stays
/-! ## less is too short -/
def Sht {β : Type} (r : β × RS3) : Prop := r.2.2.1 = 7 ∧ r.2.2.2 = false
theorem needB7 {is : Bool} : needB false 7 is = false := by cases is <;> rfl
theorem numR_cut {k : Nat} {x y p : List UInt8} (hx : x.length = k) (hp : p <+: x ++ y) : p.length < k ∧ numR k p 0 = (0, p, 7) ∨ ∃ q, p = x ++ q ∧ q <+: y ∧ numR k p 0 = (unbe x, q, 0) := by
  obtain ⟨t, ht⟩ := hp
  by_cases h : p.length < k
  · exact .inl ⟨h, numR_short h⟩
  · right
    have e : x = p.take k := by
      have := congrArg (List.take k) ht
      rw [List.take_append_of_le_length (by omega), List.take_left' hx] at this
      exact this.symm
    refine ⟨p.drop k, by rw [e, List.take_append_drop], ⟨t, ?_⟩, ?_⟩
    · have := congrArg (List.drop k) ht
      rwa [List.drop_append_of_le_length (by omega), List.drop_left' hx] at this
    · have := numR_app (k := k) (x := p.take k) (rest := p.drop k) (by simp; omega)
      rw [List.take_append_drop] at this
      rw [this, e]
theorem rowR_cut {r : Row} (hr : rowOk r = true) {p : List UInt8} (hp : p <+: rowB r) (hne : p ≠ rowB r) : Sht (rowR p 0 false) := by
  obtain ⟨h0, h3, h8⟩ := rowOk_iff hr
  obtain ⟨t, id, val, note⟩ := r
  dsimp only at h0 h3 h8
  have e0 : rowB ⟨t, id, val, note⟩ = [tB t] ++ (be 2 id ++ (be 8 (vN val) ++ ([UInt8.ofNat note.length] ++ note))) := by simp [rowB, keyB]
  rw [e0] at hp hne
  have ht := tB_toNat h0 (by omega : t < 256)
  have hb1 : needB false 0 (decide (((tB t).toNat : Int) < 3)) = false := by rw [ht, decide_eq_true h3]; rfl
  have hlen : (UInt8.ofNat note.length).toNat = note.length := by
    rw [UInt8.toNat_ofNat']
    have e : (2 : Nat) ^ 8 = 256 := by decide
    rw [e]; omega
  have hb2 : needB false 0 (decide ((note.length : Int) ≤ 8)) = false := by rw [decide_eq_true (by omega)]; rfl
  unfold rowR Sht
  rcases numR_cut (k := 1) rfl hp with ⟨_, e1⟩ | ⟨q1, hq1, hp1, e1⟩
  · simp only [e1, needB7]; exact ⟨rfl, rfl⟩
  rw [unbe_one] at e1
  subst hq1
  rcases numR_cut (k := 2) (be_length _ _) hp1 with ⟨_, e2⟩ | ⟨q2, hq2, hp2, e2⟩
  · simp only [e1, e2, hb1, numR_seven, needB7]; exact ⟨rfl, rfl⟩
  subst hq2
  rcases numR_cut (k := 8) (be_length _ _) hp2 with ⟨_, e3⟩ | ⟨q3, hq3, hp3, e3⟩
  · simp only [e1, e2, e3, hb1, numR_seven, needB7]; exact ⟨rfl, rfl⟩
  subst hq3
  rcases numR_cut (k := 1) rfl hp3 with ⟨_, e4⟩ | ⟨q4, hq4, hp4, e4⟩
  · simp only [e1, e2, e3, e4, hb1, needB7]; exact ⟨rfl, rfl⟩
  subst hq4
  rw [unbe_one, hlen] at e4
  have hlt : q4.length < note.length := by
    rcases Nat.lt_or_ge q4.length note.length with h | h
    · exact h
    · exfalso
      obtain ⟨s, hs⟩ := hp4
      have hl := congrArg List.length hs
      simp only [List.length_append] at hl
      have : s = [] := List.eq_nil_of_length_eq_zero (by omega)
      subst this
      rw [List.append_nil] at hs
      subst hs
      exact hne rfl
  have e5 : rawR note.length q4 0 = ([], q4, 7) := by
    unfold rawR
    rw [if_neg (by simp), if_pos hlt]
  simp only [e1, e2, e3, e4, e5, hb1, hb2]; exact ⟨rfl, rfl⟩
theorem kidRB_cut {k : Kid} {p : List UInt8} (hp : p <+: kidB k) (hne : p ≠ kidB k) : Sht (kidRB p 0 false) := by
  obtain ⟨t, id, page⟩ := k
  have e0 : kidB ⟨t, id, page⟩ = [tB t] ++ (be 2 id ++ [tB page]) := by simp [kidB, keyB]
  rw [e0] at hp hne
  unfold kidRB kidR Sht
  rcases numR_cut (k := 1) rfl hp with ⟨_, e1⟩ | ⟨q1, hq1, hp1, e1⟩
  · simp only [e1, numR_seven]; exact ⟨by trivial, by trivial⟩
  subst hq1
  rcases numR_cut (k := 2) (be_length _ _) hp1 with ⟨_, e2⟩ | ⟨q2, hq2, hp2, e2⟩
  · simp only [e1, e2, numR_seven]; exact ⟨by trivial, by trivial⟩
  subst hq2
  have hlt : q2.length < 1 := by
    rcases Nat.lt_or_ge q2.length 1 with h | h
    · exact h
    · exfalso
      obtain ⟨s, hs⟩ := hp2
      have hl := congrArg List.length hs
      simp only [List.length_append, List.length_singleton] at hl
      have : s = [] := List.eq_nil_of_length_eq_zero (by omega)
      subst this
      rw [List.append_nil] at hs
      subst hs
      exact hne rfl
  have e3 := numR_short (k := 1) hlt
  simp only [e1, e2, e3]; exact ⟨by trivial, by trivial⟩
theorem manyTo_cut {α : Type} {f : List UInt8 → Int → Bool → α × RS3} {enc : α → List UInt8} : ∀ (xs : List α), (∀ x ∈ xs, ∀ rest, f (enc x ++ rest) 0 false = (x, rest, 0, false)) → (∀ x ∈ xs, ∀ p, p <+: enc x → p ≠ enc x → Sht (f p 0 false)) →
    ∀ p, p <+: xs.flatMap enc → p ≠ xs.flatMap enc → Sht (manyTo f xs.length p 0 false)
  | [], _, _, p, hp, hne => by
    exfalso
    obtain ⟨t, ht⟩ := hp
    have : p = [] := by
      have := congrArg List.length ht
      simp at this
      exact List.eq_nil_of_length_eq_zero (by simpa using this.1)
    exact hne (by rw [this]; rfl)
  | x :: xs, hb, hc, p, hp, hne => by
    rw [List.length_cons, manyTo, if_pos (by decide)]
    rw [List.flatMap_cons] at hp hne
    by_cases hle : (enc x).length ≤ p.length
    · have hpe : enc x <+: p := by
        obtain ⟨t, ht⟩ := hp
        exact List.prefix_of_prefix_length_le (List.prefix_append _ _) ⟨t, ht⟩ hle
      obtain ⟨q, rfl⟩ := hpe
      have hq : q <+: xs.flatMap enc := (List.prefix_append_right_inj _).1 hp
      have hqn : q ≠ xs.flatMap enc := fun e => hne (by rw [e])
      rw [hb x (by simp)]
      exact manyTo_cut xs (fun y hy => hb y (by simp [hy])) (fun y hy => hc y (by simp [hy])) q hq hqn
    · have hpx : p <+: enc x := List.prefix_of_prefix_length_le hp (List.prefix_append _ _) (by omega)
      have hpn : p ≠ enc x := fun e => hle (by rw [e]; exact Nat.le_refl _)
      obtain ⟨s1, s2⟩ := hc x (by simp) p hpx hpn
      generalize f p 0 false = r at *
      obtain ⟨y, l', st, bad⟩ := r
      dsimp only at s1 s2
      subst s1; subst s2
      dsimp only
      rw [manyTo_stop rfl]
      exact ⟨rfl, rfl⟩
end Go.Proofs.E

namespace Go.Proofs.E
open Go
set_option linter.unusedVariables false
set_option linter.unusedSimpArgs false
set_option linter.unusedSectionVars false
set_option maxRecDepth 4000
set_option maxHeartbeats 1000000
attribute [local irreducible] Yl TL TC TE Spec YSpec R1 Hp.le EnvLe TS TR YS Stays
theorem manyR_cut {α : Type} {f : List UInt8 → Int → Bool → α × RS3} {enc : α → List UInt8} {xs : List α} (hl : xs.length ≤ 4) (hb : ∀ x ∈ xs, ∀ rest, f (enc x ++ rest) 0 false = (x, rest, 0, false)) (hc : ∀ x ∈ xs, ∀ p, p <+: enc x → p ≠ enc x → Sht (f p 0 false))
    {p : List UInt8} (hp : p <+: UInt8.ofNat xs.length :: xs.flatMap enc) (hne : p ≠ UInt8.ofNat xs.length :: xs.flatMap enc) : Sht (manyR f p 0 false) := by
  have hlen : (UInt8.ofNat xs.length).toNat = xs.length := by
    rw [UInt8.toNat_ofNat']
    have e : (2 : Nat) ^ 8 = 256 := by decide
    rw [e]; omega
  have hbb : needB false 0 (decide ((xs.length : Int) ≤ 4)) = false := by rw [decide_eq_true (by omega)]; rfl
  unfold manyR
  rcases numR_cut (k := 1) (x := [UInt8.ofNat xs.length]) (y := xs.flatMap enc) rfl hp with ⟨_, e1⟩ | ⟨q, hq, hp1, e1⟩
  · simp only [e1, needB7]; exact ⟨rfl, rfl⟩
  · rw [unbe_one, hlen] at e1
    simp only [e1, hbb]
    refine manyTo_cut xs hb hc q hp1 (fun e => hne ?_)
    rw [hq, e]; rfl
theorem sht_contE {x1 : Nat} {m : (List Row × List Kid) × RS3} (h : Sht m) : Sht (contE x1 m) := by
  obtain ⟨a, l, st, bad⟩ := m
  obtain ⟨h1, h2⟩ := h
  dsimp only at h1 h2
  subst h1; subst h2
  exact ⟨rfl, show needB false 7 (contOk ⟨x1, a.1, a.2⟩) = false from needB7⟩
theorem contentR_cut {c : Cont} (h : contOk c = true) (hf : IdFit c) {p : List UInt8} (hp : p <+: contB c) (hne : p ≠ contB c) : Sht (contentR p) := by
  have hF := contOk_facts h
  have hrb : ∀ r ∈ c.rows, ∀ rest, rowR (rowB r ++ rest) 0 false = (r, rest, 0, false) := fun r hr rest => rowR_back (hF.row r hr) (hf.row r hr) rest
  have hkb : ∀ k ∈ c.kids, ∀ rest, kidRB (kidB k ++ rest) 0 false = (k, rest, 0, false) := fun k hk rest => kidRB_back (hf.kid k hk) (hF.kid k hk).1 (hF.kid k hk).2 rest
  have hrc : ∀ r ∈ c.rows, ∀ p, p <+: rowB r → p ≠ rowB r → Sht (rowR p 0 false) := fun r hr p h1 h2 => rowR_cut (hF.row r hr) h1 h2
  have hkc : ∀ k ∈ c.kids, ∀ p, p <+: kidB k → p ≠ kidB k → Sht (kidRB p 0 false) := fun k hk p h1 h2 => kidRB_cut h1 h2
  have hrl := hF.rl
  have hkl := hF.kl
  have h7 : ∀ p : List UInt8, numR 1 p 0 = (0, p, 7) → Sht (contentR p) := fun p e1 => by
    unfold contentR
    simp only [e1, needB7]
    exact sht_contE ⟨rfl, rfl⟩
  rcases contB_form h with ⟨hk, hc0, e⟩ | ⟨hk, hks, e⟩ | ⟨hk, hrs, e⟩
  · rw [e] at hp hne
    rcases numR_cut (k := 1) (x := [0]) (y := []) rfl (by simpa using hp) with ⟨_, e1⟩ | ⟨q, hq, hp1, e1⟩
    · exact h7 p e1
    · exfalso
      have : q = [] := by simpa using hp1
      exact hne (by rw [hq, this]; rfl)
  · rw [e] at hp hne
    rcases numR_cut (k := 1) (x := [1]) (y := UInt8.ofNat c.rows.length :: c.rows.flatMap rowB) rfl hp with ⟨_, e1⟩ | ⟨q, hq, hp1, e1⟩
    · exact h7 p e1
    · have hs := manyR_cut hrl hrb hrc hp1 (fun e => hne (by rw [hq, e]; rfl))
      have hb : needB false 0 (decide (((1 : Nat) : Int) ≤ 2)) = false := rfl
      have e1' : numR 1 p 0 = (1, q, 0) := e1
      unfold contentR
      simp only [e1', hb, contM, Bool.not_false, decide_true, Bool.and_self, if_true]
      exact sht_contE hs
  · rw [e] at hp hne
    rcases numR_cut (k := 1) (x := [2]) (y := UInt8.ofNat c.kids.length :: c.kids.flatMap kidB) rfl hp with ⟨_, e1⟩ | ⟨q, hq, hp1, e1⟩
    · exact h7 p e1
    · have hs := manyR_cut hkl hkb hkc hp1 (fun e => hne (by rw [hq, e]; rfl))
      have hb : needB false 0 (decide (((2 : Nat) : Int) ≤ 2)) = false := rfl
      have e1' : numR 1 p 0 = (2, q, 0) := e1
      unfold contentR
      simp only [e1', hb, contM, Bool.not_false, decide_true, Bool.and_self, if_true, show ¬ ((2 : Nat) = 1) by decide, if_false]
      exact sht_contE hs
theorem takeCont_cut {c : Cont} (h : contOk c = true) (hf : IdFit c) {i : Nat} (hi : i < (contB c).length) : (takeContR ((contB c).take i)).2.2 = 7 := by
  have hs := contentR_cut h hf (List.take_prefix i _) (fun e => by
    have := congrArg List.length e
    rw [List.length_take] at this
    omega)
  unfold takeContR
  obtain ⟨h1, h2⟩ := hs
  dsimp only
  rw [h1, h2]; rfl
end Go.Proofs.E

namespace Go.Proofs.E
open Go
set_option linter.unusedVariables false
set_option linter.unusedSimpArgs false
set_option linter.unusedSectionVars false
set_option maxRecDepth 4000
set_option maxHeartbeats 1000000
attribute [local irreducible] Yl TL TC TE Spec YSpec R1 Hp.le EnvLe TS TR YS Stays
theorem back_spec (ρ : Hp) (w : CV) (c : Cont) (h : CInW ρ w c.rows c.kids) (f : IdFit c) (ta : Option Addr) (tn tc : Nat) (tl : List UInt8) (ht : SIn ρ u8c ta tn tl) (htc : tn ≤ tc) :
    Spec Try.prog 6 [.agg ⟨contV c.kind w⟩, .slice ta tn tc] ρ [] (fun v ρ' L' => v = .bool true ∧ ρ.le ρ' ∧ L' = []) := by
  have g := fewC_fit f
  have hw := fun ρ h => few_spec ρ w c h
  have hk1 : (fewC c).kind = c.kind := rfl
  obtain ⟨m, hm⟩ : ∃ m, m = min tn 50 := ⟨_, rfl⟩
  have hmt : (min (tn : Int) 50).toNat = m := by omega
  have hT := ht.take (hi' := m) (by omega)
  generalize tl.take m = T at *
  have hm50 : m ≤ 50 := by omega
  refine spec_enter Try.func6 rfl rfl rfl fun u R => ?_
  simp only [argsE, List.cons_append, List.nil_append]
  repeat' (first | (refine tl_is (.func 15) ?_; refine qC rfl rfl (wakes06_spec _) ?_; rintro v ρ' L' hle ⟨rfl, hle1, rfl⟩ <;> (try simp only [List.cons_append, List.nil_append, List.append_eq])) | (refine tl_is (.func 29) ?_; refine qC rfl rfl (hw _ (h.mono hle1)) ?_; rintro v ρ' L' hle ⟨hle2, v1, rfl, hC, rfl⟩ <;> (try simp only [List.cons_append, List.nil_append, List.append_eq])) | (refine i_op ?_; first | (refine iMv ?_; refine qMv ?_) | (refine iLd ?_; refine qLd ?_) | (refine iFa ?_; refine qFa ?_) | (refine iAd ?_; refine qAd ?_) | (refine iSb ?_; refine qSb ?_) | (refine iMl ?_; refine qMl ?_) | (refine iRm ?_; refine qRm ?_) | (refine iQu ?_; refine qQu ?_) | (refine iSr ?_; refine qSr ?_) | (refine iSh ?_; refine qSh ?_) | (refine iCm ?_; refine qCm ?_) | (refine iEx ?_; refine qEx ?_) | (refine iAs ?_; refine qAs ?_) | (refine iPk ?_; refine qPk ?_) | (refine iNc ?_; refine qNc ?_) | (refine iIa ?_; refine qIa ?_) | (refine iCv ?_; refine qCv ?_) | (refine iBi ?_; refine qBi ?_) | (refine iUn ?_; refine qUn ?_) | (refine iFl ?_; refine qFl ?_) | (refine iLu ?_; refine qLu ?_) | (refine iBu ?_; refine qBu ?_) | (refine iSl ?_; refine qSl ?_) | (refine iMf ?_; refine qMf ?_) | (refine iMi ?_; refine qMi ?_) | (refine iTa ?_; refine qTa ?_) | (refine iSt ?_; refine qSt ?_) | (refine iAl ?_; first | refine qAlA (fun _ => ?_) | refine qAlS (fun _ => ?_)) | (refine iBx ?_; first | refine qBxA (fun _ => ?_) | refine qBxS (fun _ => ?_)) | (refine iMm ?_; refine qMm (fun _ => ?_)) | (refine iBs ?_; refine qBs (fun _ => ?_)) | (refine i_gd ?_; first | refine qWant ?_ | refine qSkip ?_ | refine qSkip0 ?_ | refine qSkipU ?_)) | refine tl_nil ?_ | refine tc_seq ?_ | refine tc_region ?_ | refine te_seq ?_ | (refine i_cond ?_; first | refine qCt ?_ | refine qCf ?_) | refine tc_block ?_ | refine te_block_normal ?_ | refine te_block_ret ?_ | refine te_then_ret ?_ | refine te_block_hit ?_ | (refine i_miss ?_; refine qMiss ?_) | refine te_then_exit ?_ | refine tc_exit ?_ | refine tc_ret ?_ | refine tc_skip ?_ | refine tc_scope ?_ | refine te_scope_normal ?_ | refine te_scope_exit ?_ | refine te_scope_ret ?_ | refine tc_label ?_)
  rename_i b5
  rw [hmt]
  clear hmt hm
  replace hT := hT.mono (Hp.le_trans hle1 hle2)
  have hleA := Hp.le_trans hle1 hle2
  have hce := fun ρ h => contE_spec ρ v1 (fewC c) h (fun r hr => (g.row r hr).id) g.kid
  rw [← hk1] at *
  generalize fewC c = x at *
  cases ho : contOk x
  · simp only [ho, Bool.false_eq_true, if_false] at hce
    repeat' (first | (refine tl_is (.func 20) ?_; refine qC rfl rfl (hce _ hC) ?_; rintro v ρ' L' hle ⟨hle4, xa, xn, xc, rfl, hxc, hxs, rfl⟩ <;> (try simp only [List.cons_append, List.nil_append, List.append_eq])) | (refine i_op ?_; first | (refine iMv ?_; refine qMv ?_) | (refine iLd ?_; refine qLd ?_) | (refine iFa ?_; refine qFa ?_) | (refine iAd ?_; refine qAd ?_) | (refine iSb ?_; refine qSb ?_) | (refine iMl ?_; refine qMl ?_) | (refine iRm ?_; refine qRm ?_) | (refine iQu ?_; refine qQu ?_) | (refine iSr ?_; refine qSr ?_) | (refine iSh ?_; refine qSh ?_) | (refine iCm ?_; refine qCm ?_) | (refine iEx ?_; refine qEx ?_) | (refine iAs ?_; refine qAs ?_) | (refine iPk ?_; refine qPk ?_) | (refine iNc ?_; refine qNc ?_) | (refine iIa ?_; refine qIa ?_) | (refine iCv ?_; refine qCv ?_) | (refine iBi ?_; refine qBi ?_) | (refine iUn ?_; refine qUn ?_) | (refine iFl ?_; refine qFl ?_) | (refine iLu ?_; refine qLu ?_) | (refine iBu ?_; refine qBu ?_) | (refine iSl ?_; refine qSl ?_) | (refine iMf ?_; refine qMf ?_) | (refine iMi ?_; refine qMi ?_) | (refine iTa ?_; refine qTa ?_) | (refine iSt ?_; refine qSt ?_) | (refine iAl ?_; first | refine qAlA (fun _ => ?_) | refine qAlS (fun _ => ?_)) | (refine iBx ?_; first | refine qBxA (fun _ => ?_) | refine qBxS (fun _ => ?_)) | (refine iMm ?_; refine qMm (fun _ => ?_)) | (refine iBs ?_; refine qBs (fun _ => ?_)) | (refine i_gd ?_; first | refine qWant ?_ | refine qSkip ?_ | refine qSkip0 ?_ | refine qSkipU ?_)) | refine tl_nil ?_ | refine tc_seq ?_ | refine tc_region ?_ | refine te_seq ?_ | (refine i_cond ?_; first | refine qCt ?_ | refine qCf ?_) | refine tc_block ?_ | refine te_block_normal ?_ | refine te_block_ret ?_ | refine te_then_ret ?_ | refine te_block_hit ?_ | (refine i_miss ?_; refine qMiss ?_) | refine te_then_exit ?_ | refine tc_exit ?_ | refine tc_ret ?_ | refine tc_skip ?_ | refine tc_scope ?_ | refine te_scope_normal ?_ | refine te_scope_exit ?_ | refine te_scope_ret ?_ | refine tc_label ?_)
    have hx0 := hxs.len
    obtain rfl : xn = 0 := hx0.symm
    repeat' (first | (refine i_op ?_; first | (refine iMv ?_; refine qMv ?_) | (refine iLd ?_; refine qLd ?_) | (refine iFa ?_; refine qFa ?_) | (refine iAd ?_; refine qAd ?_) | (refine iSb ?_; refine qSb ?_) | (refine iMl ?_; refine qMl ?_) | (refine iRm ?_; refine qRm ?_) | (refine iQu ?_; refine qQu ?_) | (refine iSr ?_; refine qSr ?_) | (refine iSh ?_; refine qSh ?_) | (refine iCm ?_; refine qCm ?_) | (refine iEx ?_; refine qEx ?_) | (refine iAs ?_; refine qAs ?_) | (refine iPk ?_; refine qPk ?_) | (refine iNc ?_; refine qNc ?_) | (refine iIa ?_; refine qIa ?_) | (refine iCv ?_; refine qCv ?_) | (refine iBi ?_; refine qBi ?_) | (refine iUn ?_; refine qUn ?_) | (refine iFl ?_; refine qFl ?_) | (refine iLu ?_; refine qLu ?_) | (refine iBu ?_; refine qBu ?_) | (refine iSl ?_; refine qSl ?_) | (refine iMf ?_; refine qMf ?_) | (refine iMi ?_; refine qMi ?_) | (refine iTa ?_; refine qTa ?_) | (refine iSt ?_; refine qSt ?_) | (refine iAl ?_; first | refine qAlA (fun _ => ?_) | refine qAlS (fun _ => ?_)) | (refine iBx ?_; first | refine qBxA (fun _ => ?_) | refine qBxS (fun _ => ?_)) | (refine iMm ?_; refine qMm (fun _ => ?_)) | (refine iBs ?_; refine qBs (fun _ => ?_)) | (refine i_gd ?_; first | refine qWant ?_ | refine qSkip ?_ | refine qSkip0 ?_ | refine qSkipU ?_)) | refine tl_nil ?_ | refine tc_seq ?_ | refine tc_region ?_ | refine te_seq ?_ | (refine i_cond ?_; first | refine qCt ?_ | refine qCf ?_) | refine tc_block ?_ | refine te_block_normal ?_ | refine te_block_ret ?_ | refine te_then_ret ?_ | refine te_block_hit ?_ | (refine i_miss ?_; refine qMiss ?_) | refine te_then_exit ?_ | refine tc_exit ?_ | refine tc_ret ?_ | refine tc_skip ?_ | refine tc_scope ?_ | refine te_scope_normal ?_ | refine te_scope_exit ?_ | refine te_scope_ret ?_ | refine tc_label ?_)
    have hfin := Hp.le_trans hleA hle4
    exact qE ⟨rfl, hfin, rfl⟩
  · simp only [ho, if_true] at hce
    have hF := contOk_facts ho
    repeat' (first | (refine tl_is (.func 20) ?_; refine qC rfl rfl (hce _ hC) ?_; rintro v ρ' L' hle ⟨hle4, xa, xn, xc, rfl, hxc, hxs, rfl⟩ <;> (try simp only [List.cons_append, List.nil_append, List.append_eq])) | (refine i_op ?_; first | (refine iMv ?_; refine qMv ?_) | (refine iLd ?_; refine qLd ?_) | (refine iFa ?_; refine qFa ?_) | (refine iAd ?_; refine qAd ?_) | (refine iSb ?_; refine qSb ?_) | (refine iMl ?_; refine qMl ?_) | (refine iRm ?_; refine qRm ?_) | (refine iQu ?_; refine qQu ?_) | (refine iSr ?_; refine qSr ?_) | (refine iSh ?_; refine qSh ?_) | (refine iCm ?_; refine qCm ?_) | (refine iEx ?_; refine qEx ?_) | (refine iAs ?_; refine qAs ?_) | (refine iPk ?_; refine qPk ?_) | (refine iNc ?_; refine qNc ?_) | (refine iIa ?_; refine qIa ?_) | (refine iCv ?_; refine qCv ?_) | (refine iBi ?_; refine qBi ?_) | (refine iUn ?_; refine qUn ?_) | (refine iFl ?_; refine qFl ?_) | (refine iLu ?_; refine qLu ?_) | (refine iBu ?_; refine qBu ?_) | (refine iSl ?_; refine qSl ?_) | (refine iMf ?_; refine qMf ?_) | (refine iMi ?_; refine qMi ?_) | (refine iTa ?_; refine qTa ?_) | (refine iSt ?_; refine qSt ?_) | (refine iAl ?_; first | refine qAlA (fun _ => ?_) | refine qAlS (fun _ => ?_)) | (refine iBx ?_; first | refine qBxA (fun _ => ?_) | refine qBxS (fun _ => ?_)) | (refine iMm ?_; refine qMm (fun _ => ?_)) | (refine iBs ?_; refine qBs (fun _ => ?_)) | (refine i_gd ?_; first | refine qWant ?_ | refine qSkip ?_ | refine qSkip0 ?_ | refine qSkipU ?_)) | refine tl_nil ?_ | refine tc_seq ?_ | refine tc_region ?_ | refine te_seq ?_ | (refine i_cond ?_; first | refine qCt ?_ | refine qCf ?_) | refine tc_block ?_ | refine te_block_normal ?_ | refine te_block_ret ?_ | refine te_then_ret ?_ | refine te_block_hit ?_ | (refine i_miss ?_; refine qMiss ?_) | refine te_then_exit ?_ | refine tc_exit ?_ | refine tc_ret ?_ | refine tc_skip ?_ | refine tc_scope ?_ | refine te_scope_normal ?_ | refine te_scope_exit ?_ | refine te_scope_ret ?_ | refine tc_label ?_)
    have hxl := hxs.len
    have hx82 := contB_len ho
    refine tl_app (n := 0) (xs := []) (sp := []) (ys := (contB x).map u8c) (m := xn) (sz := 1) rfl rfl (OwnS.zero _ 1) (hR := rem_here') (SIn.srcV hxs) (by simpa using hxl) (u8c_one _) (by decide) rfl (by omega) (by omega) rfl (fun v5 sp5 hown5 => ?_)
    simp only [Nat.zero_add, List.nil_append] at hown5 ⊢
    repeat' (first | (refine i_op ?_; first | (refine iMv ?_; refine qMv ?_) | (refine iLd ?_; refine qLd ?_) | (refine iFa ?_; refine qFa ?_) | (refine iAd ?_; refine qAd ?_) | (refine iSb ?_; refine qSb ?_) | (refine iMl ?_; refine qMl ?_) | (refine iRm ?_; refine qRm ?_) | (refine iQu ?_; refine qQu ?_) | (refine iSr ?_; refine qSr ?_) | (refine iSh ?_; refine qSh ?_) | (refine iCm ?_; refine qCm ?_) | (refine iEx ?_; refine qEx ?_) | (refine iAs ?_; refine qAs ?_) | (refine iPk ?_; refine qPk ?_) | (refine iNc ?_; refine qNc ?_) | (refine iIa ?_; refine qIa ?_) | (refine iCv ?_; refine qCv ?_) | (refine iBi ?_; refine qBi ?_) | (refine iUn ?_; refine qUn ?_) | (refine iFl ?_; refine qFl ?_) | (refine iLu ?_; refine qLu ?_) | (refine iBu ?_; refine qBu ?_) | (refine iSl ?_; refine qSl ?_) | (refine iMf ?_; refine qMf ?_) | (refine iMi ?_; refine qMi ?_) | (refine iTa ?_; refine qTa ?_) | (refine iSt ?_; refine qSt ?_) | (refine iAl ?_; first | refine qAlA (fun _ => ?_) | refine qAlS (fun _ => ?_)) | (refine iBx ?_; first | refine qBxA (fun _ => ?_) | refine qBxS (fun _ => ?_)) | (refine iMm ?_; refine qMm (fun _ => ?_)) | (refine iBs ?_; refine qBs (fun _ => ?_)) | (refine i_gd ?_; first | refine qWant ?_ | refine qSkip ?_ | refine qSkip0 ?_ | refine qSkipU ?_)) | refine tl_nil ?_ | refine tc_seq ?_ | refine tc_region ?_ | refine te_seq ?_ | (refine i_cond ?_; first | refine qCt ?_ | refine qCf ?_) | refine tc_block ?_ | refine te_block_normal ?_ | refine te_block_ret ?_ | refine te_then_ret ?_ | refine te_block_hit ?_ | (refine i_miss ?_; refine qMiss ?_) | refine te_then_exit ?_ | refine tc_exit ?_ | refine tc_ret ?_ | refine tc_skip ?_ | refine tc_scope ?_ | refine te_scope_normal ?_ | refine te_scope_exit ?_ | refine te_scope_ret ?_ | refine tc_label ?_)
    refine tl_app (ys := T.map u8c) (m := m) (sz := 1) rfl rfl hown5 (hR := rem_here') (SIn.srcV (hT.mono hle4)) (by simpa using hT.len) (u8c_one _) (by decide) rfl (by omega) (by omega) rfl (fun v6 sp6 hown6 => ?_)
    rw [← List.map_append] at hown6 ⊢
    refine tl_freeze (ownC v6 ((contB x ++ T).map u8c) sp6 5) (fun ρ6 hle6 hfz => ?_)
    obtain ⟨a6, c6, rfl, hc6, hs6⟩ := hown6.sIn hfz
    have htb := fun ρ h => takeCont_spec ρ a6 (xn + m) c6 (contB x ++ T) h (by omega)
    rw [takeCont_back ho g T] at htb
    dsimp only at htb
    have hsm := fun ρ w2 h h' => same_spec ρ v1 w2 x x h h'
    rw [decide_eq_true (rfl : x = x)] at hsm
    have hck := fun ρ w2 h => check_spec ρ w2 x h
    simp only [ho, if_true] at hck
    repeat' (first | (refine tl_is (.func 19) ?_; refine qC rfl rfl (htb _ hs6) ?_; rintro v ρ' L' hle ⟨hle7, w2, rfl, hC2, rfl⟩ <;> (try simp only [List.cons_append, List.nil_append, List.append_eq])) | (refine tl_is (.func 32) ?_; refine qC rfl rfl (hsm _ w2 (hC.mono (Hp.le_trans hle4 (Hp.le_trans hle6 hle7))) hC2) ?_; rintro v ρ' L' hle ⟨rfl, rfl, rfl⟩ <;> (try simp only [List.cons_append, List.nil_append, List.append_eq])) | (refine tl_is (.func 31) ?_; refine qC rfl rfl (hck _ w2 hC2) ?_; rintro v ρ' L' hle ⟨rfl, rfl, rfl⟩ <;> (try simp only [List.cons_append, List.nil_append, List.append_eq])) | (refine i_op ?_; first | (refine iMv ?_; refine qMv ?_) | (refine iLd ?_; refine qLd ?_) | (refine iFa ?_; refine qFa ?_) | (refine iAd ?_; refine qAd ?_) | (refine iSb ?_; refine qSb ?_) | (refine iMl ?_; refine qMl ?_) | (refine iRm ?_; refine qRm ?_) | (refine iQu ?_; refine qQu ?_) | (refine iSr ?_; refine qSr ?_) | (refine iSh ?_; refine qSh ?_) | (refine iCm ?_; refine qCm ?_) | (refine iEx ?_; refine qEx ?_) | (refine iAs ?_; refine qAs ?_) | (refine iPk ?_; refine qPk ?_) | (refine iNc ?_; refine qNc ?_) | (refine iIa ?_; refine qIa ?_) | (refine iCv ?_; refine qCv ?_) | (refine iBi ?_; refine qBi ?_) | (refine iUn ?_; refine qUn ?_) | (refine iFl ?_; refine qFl ?_) | (refine iLu ?_; refine qLu ?_) | (refine iBu ?_; refine qBu ?_) | (refine iSl ?_; refine qSl ?_) | (refine iMf ?_; refine qMf ?_) | (refine iMi ?_; refine qMi ?_) | (refine iTa ?_; refine qTa ?_) | (refine iSt ?_; refine qSt ?_) | (refine iAl ?_; first | refine qAlA (fun _ => ?_) | refine qAlS (fun _ => ?_)) | (refine iBx ?_; first | refine qBxA (fun _ => ?_) | refine qBxS (fun _ => ?_)) | (refine iMm ?_; refine qMm (fun _ => ?_)) | (refine iBs ?_; refine qBs (fun _ => ?_)) | (refine i_gd ?_; first | refine qWant ?_ | refine qSkip ?_ | refine qSkip0 ?_ | refine qSkipU ?_)) | refine tl_nil ?_ | refine tc_seq ?_ | refine tc_region ?_ | refine te_seq ?_ | (refine i_cond ?_; first | refine qCt ?_ | refine qCf ?_) | refine tc_block ?_ | refine te_block_normal ?_ | refine te_block_ret ?_ | refine te_then_ret ?_ | refine te_block_hit ?_ | (refine i_miss ?_; refine qMiss ?_) | refine te_then_exit ?_ | refine tc_exit ?_ | refine tc_ret ?_ | refine tc_skip ?_ | refine tc_scope ?_ | refine te_scope_normal ?_ | refine te_scope_exit ?_ | refine te_scope_ret ?_ | refine tc_label ?_)
    replace hxs := hxs.mono (Hp.le_trans hle6 hle7)
    replace hT := hT.mono (Hp.le_trans hle4 (Hp.le_trans hle6 hle7))
    replace hC := hC.mono (Hp.le_trans hle4 (Hp.le_trans hle6 hle7))
    have hleB := Hp.le_trans hleA (Hp.le_trans hle4 (Hp.le_trans hle6 hle7))
    refine tc_loop_g [(1, _), (4, _), (5, _), (6, _), (71, _)] (fun (ζ : (Nat) × (Hp)) => [(72, .int .i64 ζ.1)]) (fun (ζ : (Nat) × (Hp)) => ζ.2) (fun (ζ : (Nat) × (Hp)) => [[(b5, .cells ⟨contV x.kind v1⟩ 38 (0, 0))]]) (fun (ζ : (Nat) × (Hp)) => ζ.1 ≤ xn ∧ ρ'.le ζ.2) (fun (ζ : (Nat) × (Hp)) => xn - ζ.1) ((0, ρ')) (⟨Nat.zero_le _, Hp.le_refl _⟩) ev_le ev_le rfl tk ?_
    rintro ⟨i, ρ8⟩ hI
    try simp only [List.cons_append, List.nil_append, List.append_assoc, List.append_eq] at hI ⊢
    try dsimp only at hI ⊢
    obtain ⟨hi1, hle8⟩ := hI
    by_cases hlt : i < xn
    · have hcut := takeCont_cut ho g (show i < (contB x).length by omega)
      have hti := fun ρ h => takeCont_spec ρ xa i xc ((contB x).take i) h (by omega)
      generalize takeContR ((contB x).take i) = tr at *
      obtain ⟨y, j, e⟩ := tr
      dsimp only at hcut hti
      subst hcut
      repeat' (first | (refine i_op ?_; first | (refine iMv ?_; refine qMv ?_) | (refine iLd ?_; refine qLd ?_) | (refine iFa ?_; refine qFa ?_) | (refine iAd ?_; refine qAd ?_) | (refine iSb ?_; refine qSb ?_) | (refine iMl ?_; refine qMl ?_) | (refine iRm ?_; refine qRm ?_) | (refine iQu ?_; refine qQu ?_) | (refine iSr ?_; refine qSr ?_) | (refine iSh ?_; refine qSh ?_) | (refine iCm ?_; refine qCm ?_) | (refine iEx ?_; refine qEx ?_) | (refine iAs ?_; refine qAs ?_) | (refine iPk ?_; refine qPk ?_) | (refine iNc ?_; refine qNc ?_) | (refine iIa ?_; refine qIa ?_) | (refine iCv ?_; refine qCv ?_) | (refine iBi ?_; refine qBi ?_) | (refine iUn ?_; refine qUn ?_) | (refine iFl ?_; refine qFl ?_) | (refine iLu ?_; refine qLu ?_) | (refine iBu ?_; refine qBu ?_) | (refine iSl ?_; refine qSl ?_) | (refine iMf ?_; refine qMf ?_) | (refine iMi ?_; refine qMi ?_) | (refine iTa ?_; refine qTa ?_) | (refine iSt ?_; refine qSt ?_) | (refine iAl ?_; first | refine qAlA (fun _ => ?_) | refine qAlS (fun _ => ?_)) | (refine iBx ?_; first | refine qBxA (fun _ => ?_) | refine qBxS (fun _ => ?_)) | (refine iMm ?_; refine qMm (fun _ => ?_)) | (refine iBs ?_; refine qBs (fun _ => ?_)) | (refine i_gd ?_; first | refine qWant ?_ | refine qSkip ?_ | refine qSkip0 ?_ | refine qSkipU ?_)) | refine tl_nil ?_ | refine tc_seq ?_ | refine tc_region ?_ | refine te_seq ?_ | (refine i_cond ?_; first | refine qCt ?_ | refine qCf ?_) | refine tc_block ?_ | refine te_block_normal ?_ | refine te_block_ret ?_ | refine te_then_ret ?_ | refine te_block_hit ?_ | (refine i_miss ?_; refine qMiss ?_) | refine te_then_exit ?_ | refine tc_exit ?_ | refine tc_ret ?_ | refine tc_skip ?_ | refine tc_scope ?_ | refine te_scope_normal ?_ | refine te_scope_exit ?_ | refine te_scope_ret ?_ | refine tc_label ?_)
      simp only [Int.toNat_natCast]
      repeat' (first | (refine tl_is (.func 19) ?_; refine qC rfl rfl (hti _ ((hxs.mono hle8).take (by omega))) ?_; rintro v ρ' L' hle ⟨hle9, w9, rfl, hC9, rfl⟩ <;> (try simp only [List.cons_append, List.nil_append, List.append_eq])) | (refine i_op ?_; first | (refine iMv ?_; refine qMv ?_) | (refine iLd ?_; refine qLd ?_) | (refine iFa ?_; refine qFa ?_) | (refine iAd ?_; refine qAd ?_) | (refine iSb ?_; refine qSb ?_) | (refine iMl ?_; refine qMl ?_) | (refine iRm ?_; refine qRm ?_) | (refine iQu ?_; refine qQu ?_) | (refine iSr ?_; refine qSr ?_) | (refine iSh ?_; refine qSh ?_) | (refine iCm ?_; refine qCm ?_) | (refine iEx ?_; refine qEx ?_) | (refine iAs ?_; refine qAs ?_) | (refine iPk ?_; refine qPk ?_) | (refine iNc ?_; refine qNc ?_) | (refine iIa ?_; refine qIa ?_) | (refine iCv ?_; refine qCv ?_) | (refine iBi ?_; refine qBi ?_) | (refine iUn ?_; refine qUn ?_) | (refine iFl ?_; refine qFl ?_) | (refine iLu ?_; refine qLu ?_) | (refine iBu ?_; refine qBu ?_) | (refine iSl ?_; refine qSl ?_) | (refine iMf ?_; refine qMf ?_) | (refine iMi ?_; refine qMi ?_) | (refine iTa ?_; refine qTa ?_) | (refine iSt ?_; refine qSt ?_) | (refine iAl ?_; first | refine qAlA (fun _ => ?_) | refine qAlS (fun _ => ?_)) | (refine iBx ?_; first | refine qBxA (fun _ => ?_) | refine qBxS (fun _ => ?_)) | (refine iMm ?_; refine qMm (fun _ => ?_)) | (refine iBs ?_; refine qBs (fun _ => ?_)) | (refine i_gd ?_; first | refine qWant ?_ | refine qSkip ?_ | refine qSkip0 ?_ | refine qSkipU ?_)) | refine tl_nil ?_ | refine tc_seq ?_ | refine tc_region ?_ | refine te_seq ?_ | (refine i_cond ?_; first | refine qCt ?_ | refine qCf ?_) | refine tc_block ?_ | refine te_block_normal ?_ | refine te_block_ret ?_ | refine te_then_ret ?_ | refine te_block_hit ?_ | (refine i_miss ?_; refine qMiss ?_) | refine te_then_exit ?_ | refine tc_exit ?_ | refine tc_ret ?_ | refine tc_skip ?_ | refine tc_scope ?_ | refine te_scope_normal ?_ | refine te_scope_exit ?_ | refine te_scope_ret ?_ | refine tc_label ?_)
      refine te_round_g (i + 1, _) (⟨hlt, Hp.le_trans hle8 hle9⟩) ev_le ev_le rfl tk inferInstance (by first | omega | (dsimp only; omega))
    · have hi2 : i = xn := by omega
      subst hi2
      replace hT := hT.mono hle8
      replace hC := hC.mono hle8
      have hleC := Hp.le_trans hleB hle8
      obtain ⟨ra, rn, rc, ka, kn, kc⟩ := v1
      dsimp only [contV]
      repeat' (first | (refine i_op ?_; first | (refine iMv ?_; refine qMv ?_) | (refine iLd ?_; refine qLd ?_) | (refine iFa ?_; refine qFa ?_) | (refine iAd ?_; refine qAd ?_) | (refine iSb ?_; refine qSb ?_) | (refine iMl ?_; refine qMl ?_) | (refine iRm ?_; refine qRm ?_) | (refine iQu ?_; refine qQu ?_) | (refine iSr ?_; refine qSr ?_) | (refine iSh ?_; refine qSh ?_) | (refine iCm ?_; refine qCm ?_) | (refine iEx ?_; refine qEx ?_) | (refine iAs ?_; refine qAs ?_) | (refine iPk ?_; refine qPk ?_) | (refine iNc ?_; refine qNc ?_) | (refine iIa ?_; refine qIa ?_) | (refine iCv ?_; refine qCv ?_) | (refine iBi ?_; refine qBi ?_) | (refine iUn ?_; refine qUn ?_) | (refine iFl ?_; refine qFl ?_) | (refine iLu ?_; refine qLu ?_) | (refine iBu ?_; refine qBu ?_) | (refine iSl ?_; refine qSl ?_) | (refine iMf ?_; refine qMf ?_) | (refine iMi ?_; refine qMi ?_) | (refine iTa ?_; refine qTa ?_) | (refine iSt ?_; refine qSt ?_) | (refine iAl ?_; first | refine qAlA (fun _ => ?_) | refine qAlS (fun _ => ?_)) | (refine iBx ?_; first | refine qBxA (fun _ => ?_) | refine qBxS (fun _ => ?_)) | (refine iMm ?_; refine qMm (fun _ => ?_)) | (refine iBs ?_; refine qBs (fun _ => ?_)) | (refine i_gd ?_; first | refine qWant ?_ | refine qSkip ?_ | refine qSkip0 ?_ | refine qSkipU ?_)) | refine tl_nil ?_ | refine tc_seq ?_ | refine tc_region ?_ | refine te_seq ?_ | (refine i_cond ?_; first | refine qCt ?_ | refine qCf ?_) | refine tc_block ?_ | refine te_block_normal ?_ | refine te_block_ret ?_ | refine te_then_ret ?_ | refine te_block_hit ?_ | (refine i_miss ?_; refine qMiss ?_) | refine te_then_exit ?_ | refine tc_exit ?_ | refine tc_ret ?_ | refine tc_skip ?_ | refine tc_scope ?_ | refine te_scope_normal ?_ | refine te_scope_exit ?_ | refine te_scope_ret ?_ | refine tc_label ?_)
      have hrA := hC.r
      have hrl := hrA.len
      dsimp only at hrA hrl
      have hrn4 : rn ≤ 4 := by have := hF.rl; omega
      refine tc_loop_g [(1, _), (4, _), (87, _), (88, _)] (fun (ζ : (Nat) × (Hp)) => [(89, .int .i64 ζ.1)]) (fun (ζ : (Nat) × (Hp)) => ζ.2) (fun (ζ : (Nat) × (Hp)) => []) (fun (ζ : (Nat) × (Hp)) => ζ.1 ≤ rn ∧ Hp.le ρ8 ζ.2) (fun (ζ : (Nat) × (Hp)) => rn - ζ.1) ((0, ρ8)) (⟨Nat.zero_le _, Hp.le_refl _⟩) ev_le ev_le rfl tk ?_
      rintro ⟨k, ρ9⟩ hI
      try simp only [List.cons_append, List.nil_append, List.append_assoc, List.append_eq] at hI ⊢
      try dsimp only at hI ⊢
      obtain ⟨hk0, hle9⟩ := hI
      by_cases hlt2 : k < rn
      · obtain ⟨b, off, C, T9, fr, rfl, hb, hfit, hc⟩ := (hrA.mono hle9).get (show k < x.rows.length by omega)
        have hmem : x.rows[k]'(by omega) ∈ x.rows := List.getElem_mem _
        have hro := hF.row _ hmem
        have hrf := g.row _ hmem
        generalize x.rows[k]'(by omega) = r at *
        have hre := fun ρ => rowE_spec ρ r hrf.id
        simp only [hro, if_true] at hre
        have hr20 := rowB_le hro
        repeat' (first | (refine tl_is (.func 17) ?_; refine qC rfl rfl (hre _) ?_; rintro v ρ' L' hle ⟨hle10, pa, pn, pc, rfl, hpc, hps, rfl⟩ <;> (try simp only [List.cons_append, List.nil_append, List.append_eq])) | (refine i_op ?_; first | (refine iMv ?_; refine qMv ?_) | (refine iLd ?_; refine qLd ?_) | (refine iFa ?_; refine qFa ?_) | (refine iAd ?_; refine qAd ?_) | (refine iSb ?_; refine qSb ?_) | (refine iMl ?_; refine qMl ?_) | (refine iRm ?_; refine qRm ?_) | (refine iQu ?_; refine qQu ?_) | (refine iSr ?_; refine qSr ?_) | (refine iSh ?_; refine qSh ?_) | (refine iCm ?_; refine qCm ?_) | (refine iEx ?_; refine qEx ?_) | (refine iAs ?_; refine qAs ?_) | (refine iPk ?_; refine qPk ?_) | (refine iNc ?_; refine qNc ?_) | (refine iIa ?_; refine qIa ?_) | (refine iCv ?_; refine qCv ?_) | (refine iBi ?_; refine qBi ?_) | (refine iUn ?_; refine qUn ?_) | (refine iFl ?_; refine qFl ?_) | (refine iLu ?_; refine qLu ?_) | (refine iBu ?_; refine qBu ?_) | (refine iSl ?_; refine qSl ?_) | (refine iMf ?_; refine qMf ?_) | (refine iMi ?_; refine qMi ?_) | (refine iTa ?_; refine qTa ?_) | (refine iSt ?_; refine qSt ?_) | (refine iAl ?_; first | refine qAlA (fun _ => ?_) | refine qAlS (fun _ => ?_)) | (refine iBx ?_; first | refine qBxA (fun _ => ?_) | refine qBxS (fun _ => ?_)) | (refine iMm ?_; refine qMm (fun _ => ?_)) | (refine iBs ?_; refine qBs (fun _ => ?_)) | (refine i_gd ?_; first | refine qWant ?_ | refine qSkip ?_ | refine qSkip0 ?_ | refine qSkipU ?_)) | refine tl_nil ?_ | refine tc_seq ?_ | refine tc_region ?_ | refine te_seq ?_ | (refine i_cond ?_; first | refine qCt ?_ | refine qCf ?_) | refine tc_block ?_ | refine te_block_normal ?_ | refine te_block_ret ?_ | refine te_then_ret ?_ | refine te_block_hit ?_ | (refine i_miss ?_; refine qMiss ?_) | refine te_then_exit ?_ | refine tc_exit ?_ | refine tc_ret ?_ | refine tc_skip ?_ | refine tc_scope ?_ | refine te_scope_normal ?_ | refine te_scope_exit ?_ | refine te_scope_ret ?_ | refine tc_label ?_)
        have hpl := hps.len
        refine tl_app (n := 0) (xs := []) (sp := []) (ys := (rowB r).map u8c) (m := pn) (sz := 1) rfl rfl (OwnS.zero _ 1) (hR := rem_here') (SIn.srcV hps) (by simpa using hpl) (u8c_one _) (by decide) rfl (by omega) (by omega) rfl (fun v11 sp11 hown11 => ?_)
        simp only [Nat.zero_add, List.nil_append] at hown11 ⊢
        repeat' (first | (refine i_op ?_; first | (refine iMv ?_; refine qMv ?_) | (refine iLd ?_; refine qLd ?_) | (refine iFa ?_; refine qFa ?_) | (refine iAd ?_; refine qAd ?_) | (refine iSb ?_; refine qSb ?_) | (refine iMl ?_; refine qMl ?_) | (refine iRm ?_; refine qRm ?_) | (refine iQu ?_; refine qQu ?_) | (refine iSr ?_; refine qSr ?_) | (refine iSh ?_; refine qSh ?_) | (refine iCm ?_; refine qCm ?_) | (refine iEx ?_; refine qEx ?_) | (refine iAs ?_; refine qAs ?_) | (refine iPk ?_; refine qPk ?_) | (refine iNc ?_; refine qNc ?_) | (refine iIa ?_; refine qIa ?_) | (refine iCv ?_; refine qCv ?_) | (refine iBi ?_; refine qBi ?_) | (refine iUn ?_; refine qUn ?_) | (refine iFl ?_; refine qFl ?_) | (refine iLu ?_; refine qLu ?_) | (refine iBu ?_; refine qBu ?_) | (refine iSl ?_; refine qSl ?_) | (refine iMf ?_; refine qMf ?_) | (refine iMi ?_; refine qMi ?_) | (refine iTa ?_; refine qTa ?_) | (refine iSt ?_; refine qSt ?_) | (refine iAl ?_; first | refine qAlA (fun _ => ?_) | refine qAlS (fun _ => ?_)) | (refine iBx ?_; first | refine qBxA (fun _ => ?_) | refine qBxS (fun _ => ?_)) | (refine iMm ?_; refine qMm (fun _ => ?_)) | (refine iBs ?_; refine qBs (fun _ => ?_)) | (refine i_gd ?_; first | refine qWant ?_ | refine qSkip ?_ | refine qSkip0 ?_ | refine qSkipU ?_)) | refine tl_nil ?_ | refine tc_seq ?_ | refine tc_region ?_ | refine te_seq ?_ | (refine i_cond ?_; first | refine qCt ?_ | refine qCf ?_) | refine tc_block ?_ | refine te_block_normal ?_ | refine te_block_ret ?_ | refine te_then_ret ?_ | refine te_block_hit ?_ | (refine i_miss ?_; refine qMiss ?_) | refine te_then_exit ?_ | refine tc_exit ?_ | refine tc_ret ?_ | refine tc_skip ?_ | refine tc_scope ?_ | refine te_scope_normal ?_ | refine te_scope_exit ?_ | refine te_scope_ret ?_ | refine tc_label ?_)
        refine tl_app (ys := T.map u8c) (m := m) (sz := 1) rfl rfl hown11 (hR := rem_here') (SIn.srcV (hT.mono (Hp.le_trans hle9 hle10))) (by simpa using hT.len) (u8c_one _) (by decide) rfl (by omega) (by omega) rfl (fun v12 sp12 hown12 => ?_)
        rw [← List.map_append] at hown12 ⊢
        refine tl_freeze (ownC v12 ((rowB r ++ T).map u8c) sp12 5) (fun ρ12 hle12 hfz => ?_)
        obtain ⟨a12, c12, rfl, hc12, hs12⟩ := hown12.sIn hfz
        have htr := takeRow_spec ρ12 a12 (pn + m) c12 (rowB r ++ T) hs12 (by omega)
        rw [takeRow_back hro hrf T] at htr
        dsimp only at htr
        have hdd : decide (r = r) = true := decide_eq_true rfl
        repeat' (first | (refine tl_is (.func 16) ?_; refine qC rfl rfl (htr) ?_; rintro v ρ' L' hle ⟨rfl, hle13, rfl⟩ <;> (try simp only [List.cons_append, List.nil_append, List.append_eq])) | (refine i_op ?_; first | (refine iMv ?_; refine qMv ?_) | (refine iLd ?_; refine qLd ?_) | (refine iFa ?_; refine qFa ?_) | (refine iAd ?_; refine qAd ?_) | (refine iSb ?_; refine qSb ?_) | (refine iMl ?_; refine qMl ?_) | (refine iRm ?_; refine qRm ?_) | (refine iQu ?_; refine qQu ?_) | (refine iSr ?_; refine qSr ?_) | (refine iSh ?_; refine qSh ?_) | (refine iCm ?_; refine qCm ?_) | (refine iEx ?_; refine qEx ?_) | (refine iAs ?_; refine qAs ?_) | (refine iPk ?_; refine qPk ?_) | (refine iNc ?_; refine qNc ?_) | (refine iIa ?_; refine qIa ?_) | (refine iCv ?_; refine qCv ?_) | (refine iBi ?_; refine qBi ?_) | (refine iUn ?_; refine qUn ?_) | (refine iFl ?_; refine qFl ?_) | (refine iLu ?_; refine qLu ?_) | (refine iBu ?_; refine qBu ?_) | (refine iSl ?_; refine qSl ?_) | (refine iMf ?_; refine qMf ?_) | (refine iMi ?_; refine qMi ?_) | (refine iTa ?_; refine qTa ?_) | (refine iSt ?_; refine qSt ?_) | (refine iAl ?_; first | refine qAlA (fun _ => ?_) | refine qAlS (fun _ => ?_)) | (refine iBx ?_; first | refine qBxA (fun _ => ?_) | refine qBxS (fun _ => ?_)) | (refine iMm ?_; refine qMm (fun _ => ?_)) | (refine iBs ?_; refine qBs (fun _ => ?_)) | (refine i_gd ?_; first | refine qWant ?_ | refine qSkip ?_ | refine qSkip0 ?_ | refine qSkipU ?_)) | refine tl_nil ?_ | refine tc_seq ?_ | refine tc_region ?_ | refine te_seq ?_ | (refine i_cond ?_; first | refine qCt ?_ | refine qCf ?_) | refine tc_block ?_ | refine te_block_normal ?_ | refine te_block_ret ?_ | refine te_then_ret ?_ | refine te_block_hit ?_ | (refine i_miss ?_; refine qMiss ?_) | refine te_then_exit ?_ | refine tc_exit ?_ | refine tc_ret ?_ | refine tc_skip ?_ | refine tc_scope ?_ | refine te_scope_normal ?_ | refine te_scope_exit ?_ | refine te_scope_ret ?_ | refine tc_label ?_)
        simp only [hdd, Bool.not_true]
        repeat' (first | (refine i_op ?_; first | (refine iMv ?_; refine qMv ?_) | (refine iLd ?_; refine qLd ?_) | (refine iFa ?_; refine qFa ?_) | (refine iAd ?_; refine qAd ?_) | (refine iSb ?_; refine qSb ?_) | (refine iMl ?_; refine qMl ?_) | (refine iRm ?_; refine qRm ?_) | (refine iQu ?_; refine qQu ?_) | (refine iSr ?_; refine qSr ?_) | (refine iSh ?_; refine qSh ?_) | (refine iCm ?_; refine qCm ?_) | (refine iEx ?_; refine qEx ?_) | (refine iAs ?_; refine qAs ?_) | (refine iPk ?_; refine qPk ?_) | (refine iNc ?_; refine qNc ?_) | (refine iIa ?_; refine qIa ?_) | (refine iCv ?_; refine qCv ?_) | (refine iBi ?_; refine qBi ?_) | (refine iUn ?_; refine qUn ?_) | (refine iFl ?_; refine qFl ?_) | (refine iLu ?_; refine qLu ?_) | (refine iBu ?_; refine qBu ?_) | (refine iSl ?_; refine qSl ?_) | (refine iMf ?_; refine qMf ?_) | (refine iMi ?_; refine qMi ?_) | (refine iTa ?_; refine qTa ?_) | (refine iSt ?_; refine qSt ?_) | (refine iAl ?_; first | refine qAlA (fun _ => ?_) | refine qAlS (fun _ => ?_)) | (refine iBx ?_; first | refine qBxA (fun _ => ?_) | refine qBxS (fun _ => ?_)) | (refine iMm ?_; refine qMm (fun _ => ?_)) | (refine iBs ?_; refine qBs (fun _ => ?_)) | (refine i_gd ?_; first | refine qWant ?_ | refine qSkip ?_ | refine qSkip0 ?_ | refine qSkipU ?_)) | refine tl_nil ?_ | refine tc_seq ?_ | refine tc_region ?_ | refine te_seq ?_ | (refine i_cond ?_; first | refine qCt ?_ | refine qCf ?_) | refine tc_block ?_ | refine te_block_normal ?_ | refine te_block_ret ?_ | refine te_then_ret ?_ | refine te_block_hit ?_ | (refine i_miss ?_; refine qMiss ?_) | refine te_then_exit ?_ | refine tc_exit ?_ | refine tc_ret ?_ | refine tc_skip ?_ | refine tc_scope ?_ | refine te_scope_normal ?_ | refine te_scope_exit ?_ | refine te_scope_ret ?_ | refine tc_label ?_)
        refine te_round_g (k + 1, _) (⟨hlt2, Hp.le_trans hle9 (Hp.le_trans hle10 (Hp.le_trans hle12 hle13))⟩) ev_le ev_le rfl tk inferInstance (by first | omega | (dsimp only; omega))
      · have hk2 : k = rn := by omega
        subst hk2
        repeat' (first | (refine i_op ?_; first | (refine iMv ?_; refine qMv ?_) | (refine iLd ?_; refine qLd ?_) | (refine iFa ?_; refine qFa ?_) | (refine iAd ?_; refine qAd ?_) | (refine iSb ?_; refine qSb ?_) | (refine iMl ?_; refine qMl ?_) | (refine iRm ?_; refine qRm ?_) | (refine iQu ?_; refine qQu ?_) | (refine iSr ?_; refine qSr ?_) | (refine iSh ?_; refine qSh ?_) | (refine iCm ?_; refine qCm ?_) | (refine iEx ?_; refine qEx ?_) | (refine iAs ?_; refine qAs ?_) | (refine iPk ?_; refine qPk ?_) | (refine iNc ?_; refine qNc ?_) | (refine iIa ?_; refine qIa ?_) | (refine iCv ?_; refine qCv ?_) | (refine iBi ?_; refine qBi ?_) | (refine iUn ?_; refine qUn ?_) | (refine iFl ?_; refine qFl ?_) | (refine iLu ?_; refine qLu ?_) | (refine iBu ?_; refine qBu ?_) | (refine iSl ?_; refine qSl ?_) | (refine iMf ?_; refine qMf ?_) | (refine iMi ?_; refine qMi ?_) | (refine iTa ?_; refine qTa ?_) | (refine iSt ?_; refine qSt ?_) | (refine iAl ?_; first | refine qAlA (fun _ => ?_) | refine qAlS (fun _ => ?_)) | (refine iBx ?_; first | refine qBxA (fun _ => ?_) | refine qBxS (fun _ => ?_)) | (refine iMm ?_; refine qMm (fun _ => ?_)) | (refine iBs ?_; refine qBs (fun _ => ?_)) | (refine i_gd ?_; first | refine qWant ?_ | refine qSkip ?_ | refine qSkip0 ?_ | refine qSkipU ?_)) | refine tl_nil ?_ | refine tc_seq ?_ | refine tc_region ?_ | refine te_seq ?_ | (refine i_cond ?_; first | refine qCt ?_ | refine qCf ?_) | refine tc_block ?_ | refine te_block_normal ?_ | refine te_block_ret ?_ | refine te_then_ret ?_ | refine te_block_hit ?_ | (refine i_miss ?_; refine qMiss ?_) | refine te_then_exit ?_ | refine tc_exit ?_ | refine tc_ret ?_ | refine tc_skip ?_ | refine tc_scope ?_ | refine te_scope_normal ?_ | refine te_scope_exit ?_ | refine te_scope_ret ?_ | refine tc_label ?_)
        have hfin := Hp.le_trans hleC hle9
        exact qE ⟨rfl, hfin, rfl⟩
end Go.Proofs.E

namespace Go.Proofs.Ytkgenlmcdbafmaa.CodecBackLaw
open Go Go.ChangeShapes Go.WideShapes Go.ChangeAt Go.RowKit Go.Proofs.E
set_option linter.unusedVariables false

theorem own : ownKnob Try.prog.godebug = none := by kernel_rfl
theorem laidOut : laidOutB Try.prog = true := by kernel_rfl

set_option maxRecDepth 100000 in
theorem lifted (os : Os) (started : os.Started) (H : Type) (enc : TypeId × Value → H) :
    ReturnsInHanded {} Try.checked os 6 .any (Rows.codecBackSpec.pre6 enc Try.prog Try.f6 Rows.codecBackRow.domain false) (Rows.codecBackSpec.post enc Try.prog Try.f6 false true false false) := by
  refine returnsInHanded_of_change_sized (C := Try.checked) own started (by kernel_rfl) Try.func6
    (ChangeSpec.witness6 (enc := enc) (C := Try.checked) false ⟨#[], #[.agg #[.int .i64 0, .slice none 0 0, .slice none 0 0], .slice none 0 0], []⟩ 8 (by kernel_rfl) (by kernel_rfl) (by kernel_rfl) (by kernel_rfl)) ?_
  intro W base args ds gs before hval0 hW hcnd hsz0 _
  have hval : ∀ (j : Nat) t v, Try.f6.params[j]? = some t → args[j]? = some v → Value.okWide Try.prog W .any base t v := hval0
  have hW' := hW
  obtain ⟨p, q, hA0, hV, rfl, hfz, hnd⟩ := hW
  have hA : DataW.TrodAll enc Try.prog W 0 (fun _ => true) true Try.f6.params.toList args.toList ds p := hA0
  have hsz : (DataW.weightsEach Try.prog (Try.f6.params.toList ++ Rows.codecBackSpec.plain.varTypes Try.prog) (ds ++ gs)).all (· ≤ reachBytes) = true := hsz0
  rw [Try.params6] at hA hval hsz
  obtain ⟨v0, vs0, d0, ds0, p0, q0, hargs, rfl, rfl, h0, r0⟩ := trodAll_cons hA
  obtain ⟨v1, vs1, d1, ds1, p1, q1, rfl, rfl, rfl, h1, r1⟩ := trodAll_cons r0
  obtain ⟨rfl, rfl, rfl⟩ := trodAll_nil r1
  obtain rfl : args = #[v0, v1] := by cases args; simp_all
  obtain ⟨rfl, rfl⟩ := trodVars_none hV
  have k0 := h0
  have k1 := h1
  have lt0 : ∀ x ∈ p0, x.block < W.heap.size := by obtain ⟨m, hm⟩ := k0; exact DataW.trod_lt m _ _ _ hm
  have lt1 : ∀ x ∈ p1, x.block < W.heap.size := by obtain ⟨m, hm⟩ := k1; exact DataW.trod_lt m _ _ _ hm
  obtain ⟨cs0, rfl, _⟩ := okWide_struct Try.underlying38 (hval 0 38 v0 rfl rfl)
  obtain ⟨o0, e0, ek0⟩ := opn_cont _ _ _ h0.choose_spec
  obtain rfl : cs0 = ⟨contV o0.2.kind o0.1⟩ := by
    cases cs0; simp only [Value.cells] at e0; rw [e0]
  obtain ⟨a1, n1, c1, rfl⟩ := okWide_slice Try.underlying22 (hval 1 22 v1 rfl rfl)
  have b1 := top_slice hsz (j := 1) rfl rfl Try.underlying22 k1 rfl
  have bb1 : Try.prog.bytesOf 5 = 1 := by kernel_rfl
  rw [bb1] at b1
  simp only [reachBytes] at b1
  obtain ⟨s1, e1⟩ := opn_bytes _ _ _ h1.choose_spec
  obtain ⟨⟨y1, m1, z1, x1⟩, ec1⟩ : ∃ s, s = s1 := ⟨s1, rfl⟩
  subst ec1
  have ec1 := e1.cells
  simp only [Value.cells, List.cons.injEq, Value.slice.injEq, and_true] at ec1
  obtain ⟨rfl, rfl, rfl⟩ := ec1
  clear hA0 hval0
  obtain ⟨hS, hc, hb⟩ := sIn_of e1
  refine (Spec.law (back_spec (hpOf W) o0.1 o0.2 ek0.c ⟨ek0.row, ek0.kid⟩ a1 n1 c1 x1 hS hc)).mono fun e W' ⟨he, bel⟩ => ?_
  subst he
  exact ⟨_, rfl, _, _, _, [], _, [], hW', trodAll_mk1 (shut_bool Try.underlying4 _), (trodAll_cons_mk (Below.trod laidOut (by kernel_rfl) (of_decide_eq_true (by kernel_rfl)) k0 bel lt0) (trodAll_cons_mk (Below.trod laidOut (by kernel_rfl) (of_decide_eq_true (by kernel_rfl)) k1 bel lt1) trodAll_mk0)), rfl, bel.frame _, fun h => by cases h⟩

theorem over : Rows.codecBackRow.holds Try.pinned (OpenSpec.ofChange Rows.codecBackSpec) :=
  OpenClaim.holds_of_wide 6 Try.f6 rfl rfl rfl rfl rfl rfl rfl ⟨rfl, rfl, rfl, rfl, rfl⟩ rfl rfl rfl rfl rfl (by kernel_rfl) Try.func6 (by kernel_rfl)
    (of_decide_eq_true (by kernel_rfl)) (by unfold Func.isWrapper; first | (rw [if_pos (by decide +kernel)]; kernel_rfl) | (rw [if_neg (by decide +kernel)]; exact ⟨rfl, rfl⟩))
    (fun os started H enc _ => lifted os started H enc)

theorem proved : Rows.CodecBackSaid := over
end Go.Proofs.Ytkgenlmcdbafmaa.CodecBackLaw

