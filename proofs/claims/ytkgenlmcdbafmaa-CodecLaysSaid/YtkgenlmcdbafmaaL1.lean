/- What the codec of layer 6 lays, against the reference; the law CodecLays. Part 1 of 2. -/
import Derived.Test.YtkgenlmcdbafmaaB4
namespace Go.Proofs.E
open Go
set_option linter.unusedVariables false
set_option linter.unusedSimpArgs false
set_option linter.unusedSectionVars false
set_option maxRecDepth 4000
set_option maxHeartbeats 1000000
attribute [local irreducible] Yl TL TC TE Spec YSpec R1 Hp.le EnvLe TS TR YS Stays
/-! ## what is taken is what its bytes are -/
theorem numR_zero {k : Nat} {l : List UInt8} {st : Int} (h : (numR k l st).2.2 = 0) : st = 0 ∧ k ≤ l.length ∧ numR k l st = (unbe (l.take k), l.drop k, 0) := by
  unfold numR at h ⊢
  by_cases hs : st ≠ 0
  · rw [if_pos hs] at h; exact absurd h hs
  · have h0 : st = 0 := by simpa using hs
    rw [if_neg hs] at h ⊢
    by_cases hl : l.length < k
    · rw [if_pos hl] at h; simp at h
    · rw [if_neg hl]; exact ⟨h0, by omega, rfl⟩
theorem rawR_zero {k : Nat} {l : List UInt8} {st : Int} (h : (rawR k l st).2.2 = 0) : st = 0 ∧ k ≤ l.length ∧ rawR k l st = (l.take k, l.drop k, 0) := by
  unfold rawR at h ⊢
  by_cases hs : st ≠ 0
  · rw [if_pos hs] at h; exact absurd h hs
  · have h0 : st = 0 := by simpa using hs
    rw [if_neg hs] at h ⊢
    by_cases hl : l.length < k
    · rw [if_pos hl] at h; simp at h
    · rw [if_neg hl]; exact ⟨h0, by omega, rfl⟩
theorem be_take {k : Nat} {l : List UInt8} (h : k ≤ l.length) : be k (unbe (l.take k)) = l.take k := by
  have := be_unbe (l.take k)
  rwa [List.length_take, Nat.min_eq_left h] at this
theorem be_one (x : Nat) : be 1 x = [UInt8.ofNat x] := by simp [be]
theorem tB_nat (x : Nat) : tB (x : Int) = UInt8.ofNat x := rfl
theorem vN_i64N {x : Nat} (h : x < 18446744073709551616) : vN (i64N x) = x := by
  have h1 : IntKind.u64.wrap (i64N x) = x := by
    unfold i64N
    simp only [IntKind.wrap, IntKind.bits, IntKind.signed, Bool.true_and, Bool.false_and, Bool.false_eq_true, if_false]
    split <;> simp_all <;> omega
  simp [vN, h1]
theorem i64N_vN {v : Int} (h : -9223372036854775808 ≤ v ∧ v ≤ 9223372036854775807) : i64N (vN v) = v := by
  unfold i64N
  rw [← vN_eq]
  simp only [IntKind.wrap, IntKind.bits, IntKind.signed, Bool.true_and, Bool.false_and, Bool.false_eq_true, if_false]
  split <;> simp_all <;> omega
theorem needB_false {bad : Bool} {st : Int} {is : Bool} (h : needB bad st is = false) (hs : st = 0) : bad = false ∧ is = true := by
  subst hs
  cases bad <;> cases is <;> simp_all [needB]
structure RowFit (r : Row) : Prop where
  id : r.id < 65536
  val : -9223372036854775808 ≤ r.val ∧ r.val ≤ 9223372036854775807
theorem i64N_fit (x : Nat) : -9223372036854775808 ≤ i64N x ∧ i64N x ≤ 9223372036854775807 := by
  unfold i64N
  simp only [IntKind.wrap, IntKind.bits, IntKind.signed, Bool.true_and]
  split <;> simp_all <;> omega
theorem rowR_ok {l l' : List UInt8} {st : Int} {bad : Bool} {r : Row} (h : rowR l st bad = (r, l', 0, false)) : st = 0 ∧ bad = false ∧ rowOk r = true ∧ l = rowB r ++ l' ∧ RowFit r := by
  unfold rowR at h
  dsimp only at h
  split at h
  · rename_i hok
    rw [Bool.and_eq_true, Bool.not_eq_true'] at hok
    obtain ⟨hb1, hs1⟩ := hok
    have hs1 := of_decide_eq_true hs1
    obtain ⟨rfl, hl1, e1⟩ := numR_zero hs1
    obtain ⟨rfl, ht⟩ := needB_false hb1 hs1
    split at h
    · rename_i hok2
      rw [Bool.and_eq_true, Bool.not_eq_true'] at hok2
      obtain ⟨hb2, hs4⟩ := hok2
      have hs4 := of_decide_eq_true hs4
      obtain ⟨hs3, hl4, e4⟩ := numR_zero hs4
      obtain ⟨hs2, hl3, e3⟩ := numR_zero hs3
      obtain ⟨hs1', hl2, e2⟩ := numR_zero hs2
      obtain ⟨_, hn⟩ := needB_false hb2 hs4
      have ht := of_decide_eq_true ht
      have hn := of_decide_eq_true hn
      simp only [Prod.mk.injEq] at h
      obtain ⟨h1, h2, h3, h4⟩ := h
      obtain ⟨_, hl5, e5⟩ := rawR_zero h3
      subst h1; subst h2
      rw [e5]
      simp only [e4] at hl5 hn e5 ⊢
      simp only [e3] at hl4 hl5 hn e5 ⊢
      simp only [e2] at hl3 hl4 hl5 hn e5 ⊢
      simp only [e1] at hl2 hl3 hl4 hl5 hn ht e5 ⊢
      have b1 := be_take hl1
      have b2 := be_take hl2
      have b3 := be_take hl3
      have b4 := be_take hl4
      rw [be_one] at b1 b4
      have u2 := unbe_lt ((l.drop 1).take 2)
      have u3 := unbe_lt (((l.drop 1).drop 2).take 8)
      rw [List.length_take, Nat.min_eq_left hl2] at u2
      rw [List.length_take, Nat.min_eq_left hl3] at u3
      have hlen : (List.take (unbe (List.take 1 (List.drop 8 (List.drop 2 (List.drop 1 l))))) (List.drop 1 (List.drop 8 (List.drop 2 (List.drop 1 l))))).length = unbe (List.take 1 (List.drop 8 (List.drop 2 (List.drop 1 l)))) := by rw [List.length_take, Nat.min_eq_left hl5]
      refine ⟨by trivial, by trivial, ?_, ?_, ⟨by dsimp only; omega, i64N_fit _⟩⟩
      · unfold rowOk
        dsimp only
        rw [hlen]
        exact decide_eq_true ⟨⟨by omega, by omega⟩, by omega⟩
      · unfold rowB keyB
        dsimp only
        rw [hlen, vN_i64N (by omega), b3, b2, tB_nat]
        have c1 : UInt8.ofNat (unbe (List.take 1 l)) :: (List.take 2 (List.drop 1 l)) = List.take 1 l ++ List.take 2 (List.drop 1 l) := by
          show [UInt8.ofNat (unbe (List.take 1 l))] ++ _ = _
          rw [b1]
        rw [c1]
        have c4 : ∀ X : List UInt8, UInt8.ofNat (unbe (List.take 1 (List.drop 8 (List.drop 2 (List.drop 1 l))))) :: X = List.take 1 (List.drop 8 (List.drop 2 (List.drop 1 l))) ++ X := fun X => by
          show [UInt8.ofNat (unbe (List.take 1 (List.drop 8 (List.drop 2 (List.drop 1 l)))))] ++ X = _
          rw [b4]
        rw [c4]
        simp only [List.append_assoc, List.take_append_drop]
    · rename_i hok2
      simp only [Prod.mk.injEq] at h
      obtain ⟨_, _, h3, h4⟩ := h
      exact absurd (by rw [h4, h3]; rfl) hok2
  · rename_i hok
    simp only [Prod.mk.injEq] at h
    obtain ⟨_, _, h3, h4⟩ := h
    exact absurd (by rw [h4, h3]; rfl) hok
structure KidFit (k : Kid) : Prop where
  id : k.id < 65536
  t : 0 ≤ k.t ∧ k.t < 256
  page : 0 ≤ k.page ∧ k.page < 256
theorem kidRB_ok {l l' : List UInt8} {st : Int} {bad : Bool} {r : Kid} (h : kidRB l st bad = (r, l', 0, false)) : st = 0 ∧ bad = false ∧ l = kidB r ++ l' ∧ KidFit r := by
  unfold kidRB kidR at h
  dsimp only at h
  simp only [Prod.mk.injEq] at h
  obtain ⟨h1, h2, h3, h4⟩ := h
  obtain ⟨hs2, hl3, e3⟩ := numR_zero h3
  obtain ⟨hs1, hl2, e2⟩ := numR_zero hs2
  obtain ⟨rfl, hl1, e1⟩ := numR_zero hs1
  subst h1; subst h2
  simp only [e3]
  simp only [e2] at hl3 ⊢
  simp only [e1] at hl2 hl3 ⊢
  have b1 := be_take hl1
  have b2 := be_take hl2
  have b3 := be_take hl3
  rw [be_one] at b1 b3
  have u1 := unbe_lt (l.take 1)
  have u2 := unbe_lt ((l.drop 1).take 2)
  have u3 := unbe_lt (((l.drop 1).drop 2).take 1)
  rw [List.length_take, Nat.min_eq_left hl1] at u1
  rw [List.length_take, Nat.min_eq_left hl2] at u2
  rw [List.length_take, Nat.min_eq_left hl3] at u3
  refine ⟨by trivial, h4, ?_, ⟨by dsimp only; omega, by dsimp only; omega, by dsimp only; omega⟩⟩
  unfold kidB keyB
  dsimp only
  rw [b2, tB_nat, tB_nat]
  have c1 : ∀ X : List UInt8, UInt8.ofNat (unbe (List.take 1 l)) :: X = List.take 1 l ++ X := fun X => by
    show [UInt8.ofNat (unbe (List.take 1 l))] ++ X = _
    rw [b1]
  rw [c1, b3]
  simp only [List.append_assoc, List.take_append_drop]
theorem manyTo_ok {α : Type} {f : List UInt8 → Int → Bool → α × RS3} {enc : α → List UInt8} {fit : α → Prop} (hf : ∀ {l l' : List UInt8} {st : Int} {bad : Bool} {x : α}, f l st bad = (x, l', 0, false) → st = 0 ∧ bad = false ∧ l = enc x ++ l' ∧ fit x) :
    ∀ {n : Nat} {l l' : List UInt8} {st : Int} {bad : Bool} {xs : List α}, manyTo f n l st bad = (xs, l', 0, false) → st = 0 ∧ bad = false ∧ xs.length = n ∧ l = xs.flatMap enc ++ l' ∧ ∀ x ∈ xs, fit x
  | 0, l, l', st, bad, xs, h => by
    rw [manyTo] at h
    simp only [Prod.mk.injEq] at h
    obtain ⟨rfl, rfl, rfl, rfl⟩ := h
    exact ⟨rfl, rfl, rfl, by simp, by simp⟩
  | n + 1, l, l', st, bad, xs, h => by
    rw [manyTo] at h
    split at h
    · simp only [Prod.mk.injEq] at h
      obtain ⟨h1, h2⟩ := h
      have key : manyTo f n (f l st bad).2.1 (f l st bad).2.2.1 (f l st bad).2.2.2 = ((manyTo f n (f l st bad).2.1 (f l st bad).2.2.1 (f l st bad).2.2.2).1, l', 0, false) := by rw [← h2]
      obtain ⟨g1, g2, g3, g4, g5⟩ := manyTo_ok hf key
      obtain ⟨k1, k2, k3, k4⟩ := hf (show f l st bad = ((f l st bad).1, (f l st bad).2.1, 0, false) by rw [← g1, ← g2])
      subst h1
      refine ⟨k1, k2, by simp [g3], ?_, ?_⟩
      · rw [List.flatMap_cons, List.append_assoc, ← g4]; exact k3
      · intro x hx
        rcases List.mem_cons.1 hx with rfl | hx
        · exact k4
        · exact g5 x hx
    · rename_i hok
      simp only [Prod.mk.injEq] at h
      obtain ⟨_, _, h3, h4⟩ := h
      exact absurd (by rw [h4, h3]; rfl) hok
theorem manyR_ok {α : Type} {f : List UInt8 → Int → Bool → α × RS3} {enc : α → List UInt8} {fit : α → Prop} (hf : ∀ {l l' : List UInt8} {st : Int} {bad : Bool} {x : α}, f l st bad = (x, l', 0, false) → st = 0 ∧ bad = false ∧ l = enc x ++ l' ∧ fit x)
    {l l' : List UInt8} {st : Int} {bad : Bool} {xs : List α} (h : manyR f l st bad = (xs, l', 0, false)) : st = 0 ∧ bad = false ∧ l = UInt8.ofNat xs.length :: xs.flatMap enc ++ l' ∧ ∀ x ∈ xs, fit x := by
  unfold manyR at h
  obtain ⟨g1, g2, g3, g4, g5⟩ := manyTo_ok hf h
  obtain ⟨rfl, hl, e⟩ := numR_zero g1
  obtain ⟨k1, _⟩ := needB_false g2 g1
  rw [e] at g3 g4
  dsimp only at g3 g4
  refine ⟨rfl, k1, ?_, g5⟩
  have b1 := be_take hl
  rw [be_one, ← g3] at b1
  rw [show UInt8.ofNat xs.length :: xs.flatMap enc ++ l' = [UInt8.ofNat xs.length] ++ (xs.flatMap enc ++ l') from rfl, b1, ← g4, List.take_append_drop]
structure ContFit (c : Cont) : Prop where
  row : ∀ r ∈ c.rows, RowFit r
  kid : ∀ k ∈ c.kids, KidFit k
theorem contentR_ok {l l' : List UInt8} {c : Cont} (h : contentR l = (c, l', 0, false)) : contOk c = true ∧ l = contB c ++ l' ∧ ContFit c := by
  unfold contentR contE at h
  simp only [Prod.mk.injEq] at h
  obtain ⟨h1, h2, h3, h4⟩ := h
  generalize hm : contM (numR 1 l 0).1 (numR 1 l 0).2.1 (numR 1 l 0).2.2 (needB false (numR 1 l 0).2.2 (decide (((numR 1 l 0).1 : Int) ≤ 2))) = m at *
  obtain ⟨⟨rows, kids⟩, l2, st2, b2⟩ := m
  dsimp only at h1 h2 h3 h4
  subst h2; subst h3; subst h1
  obtain ⟨rfl, hok⟩ := needB_false h4 rfl
  refine ⟨hok, ?_⟩
  unfold contM at hm
  have hF := contOk_facts hok
  have hkind := hF.kind
  dsimp only at hkind
  split at hm
  · rename_i hokk
    rw [Bool.and_eq_true, Bool.not_eq_true'] at hokk
    obtain ⟨_, hs1⟩ := hokk
    have hs1 := of_decide_eq_true hs1
    obtain ⟨_, hl1, e1⟩ := numR_zero hs1
    have b1 := be_take hl1
    rw [be_one] at b1
    rw [e1] at hm hkind hok ⊢
    dsimp only at hm hkind hok ⊢
    generalize hx : unbe (List.take 1 l) = x at *
    have hl : l = UInt8.ofNat x :: l.drop 1 := by
      have : l = l.take 1 ++ l.drop 1 := (List.take_append_drop 1 l).symm
      rw [← b1] at this
      exact this
    split at hm
    · rename_i hx1
      simp only [Prod.mk.injEq] at hm
      obtain ⟨⟨h1, h2⟩, h3⟩ := hm
      subst h2
      have key : manyR rowR (l.drop 1) 0 (needB false 0 (decide ((x : Int) ≤ 2))) = (rows, l2, 0, false) := by rw [← h1, ← h3]
      obtain ⟨_, _, g3, g4⟩ := manyR_ok (enc := rowB) (fit := RowFit) (fun h => ⟨(rowR_ok h).1, (rowR_ok h).2.1, (rowR_ok h).2.2.2.1, (rowR_ok h).2.2.2.2⟩) key
      refine ⟨?_, ⟨g4, by simp⟩⟩
      have hc : contB ⟨x, rows, []⟩ = UInt8.ofNat x :: (UInt8.ofNat rows.length :: rows.flatMap rowB) := by
        unfold contB cntB
        rw [if_neg (by dsimp only; omega), tB_nat]; simp
      rw [hc, hl, g3]; rfl
    · split at hm
      · rename_i hx1 hx2
        simp only [Prod.mk.injEq] at hm
        obtain ⟨⟨h1, h2⟩, h3⟩ := hm
        subst h1
        have key : manyR kidRB (l.drop 1) 0 (needB false 0 (decide ((x : Int) ≤ 2))) = (kids, l2, 0, false) := by rw [← h2, ← h3]
        obtain ⟨_, _, g3, g4⟩ := manyR_ok (enc := kidB) (fit := KidFit) (fun h => kidRB_ok h) key
        refine ⟨?_, ⟨by simp, g4⟩⟩
        have hc : contB ⟨x, [], kids⟩ = UInt8.ofNat x :: (UInt8.ofNat kids.length :: kids.flatMap kidB) := by
          unfold contB cntB
          rw [if_neg (by dsimp only; omega), tB_nat]; simp
        rw [hc, hl, g3]; rfl
      · rename_i hx1 hx2
        simp only [Prod.mk.injEq] at hm
        obtain ⟨⟨h1, h2⟩, h3, _⟩ := hm
        subst h1; subst h2; subst h3
        have hx0 : (x : Int) = 0 := by
          rcases hkind with h | h | h
          · exact h.1
          · exact absurd (by omega) hx1
          · exact absurd (by omega) hx2
        refine ⟨?_, ⟨by simp, by simp⟩⟩
        have hc : contB ⟨x, [], []⟩ = [UInt8.ofNat x] := by
          unfold contB cntB
          rw [if_pos hx0, tB_nat]; simp
        rw [hc]; exact hl
  · rename_i hokk
    simp only [Prod.mk.injEq] at hm
    obtain ⟨⟨h1, h2⟩, h3, h4, h5⟩ := hm
    exact absurd (by rw [h5, h4]; rfl) hokk
theorem takenE_zero {bad : Bool} {st : Int} (h : takenE bad st = 0) : bad = false ∧ st = 0 := by
  cases bad
  · exact ⟨rfl, h⟩
  · simp [takenE] at h
theorem takeRow_ok {l : List UInt8} (h : (takeRowR l).2.2 = 0) : ∃ n : Nat, (takeRowR l).2.1 = n ∧ n ≤ l.length ∧ rowOk (takeRowR l).1 = true ∧ rowB (takeRowR l).1 = l.take n ∧ RowFit (takeRowR l).1 := by
  unfold takeRowR at h ⊢
  dsimp only at h ⊢
  obtain ⟨hb, hs⟩ := takenE_zero h
  generalize hr : rowR l 0 false = r at *
  obtain ⟨x, l', st, bad⟩ := r
  dsimp only at hb hs
  subst hb; subst hs
  obtain ⟨_, _, g1, g2, g3⟩ := rowR_ok hr
  have hl := congrArg List.length g2
  simp only [List.length_append] at hl
  refine ⟨(rowB x).length, ?_, by omega, ?_⟩
  · simp [takenN]; omega
  · simp only [Bool.false_or, ne_eq, not_true_eq_false, decide_false, Bool.false_eq_true, if_false]
    exact ⟨g1, by rw [g2]; simp, g3⟩
theorem takeCont_ok {l : List UInt8} (h : (takeContR l).2.2 = 0) : ∃ n : Nat, (takeContR l).2.1 = n ∧ n ≤ l.length ∧ contOk (takeContR l).1 = true ∧ contB (takeContR l).1 = l.take n ∧ ContFit (takeContR l).1 := by
  unfold takeContR at h ⊢
  dsimp only at h ⊢
  obtain ⟨hb, hs⟩ := takenE_zero h
  generalize hr : contentR l = r at *
  obtain ⟨x, l', st, bad⟩ := r
  dsimp only at hb hs
  subst hb; subst hs
  obtain ⟨g1, g2, g3⟩ := contentR_ok hr
  have hl := congrArg List.length g2
  simp only [List.length_append] at hl
  refine ⟨(contB x).length, ?_, by omega, ?_⟩
  · simp [takenN]; omega
  · simp only [Bool.false_or, ne_eq, not_true_eq_false, decide_false, Bool.false_eq_true, if_false]
    exact ⟨g1, by rw [g2]; simp, g3⟩
theorem takeCont_bad {l : List UInt8} (h : (takeContR l).2.2 ≠ 0) : (takeContR l).1 = ⟨0, [], []⟩ ∧ (takeContR l).2.1 = 0 := by
  unfold takeContR at h ⊢
  dsimp only at h ⊢
  generalize contentR l = r at *
  obtain ⟨x, l', st, bad⟩ := r
  dsimp only at h ⊢
  cases bad
  · have hs : st ≠ 0 := h
    simp [takenN, hs]
  · simp [takenN]
theorem contB_len {c : Cont} (h : contOk c = true) : (contB c).length ≤ 82 := by
  have hF := contOk_facts h
  have h1 := flatMap_le rowB 20 c.rows (fun x hx => rowB_le (hF.row x hx))
  have h2 := flatMap_le kidB 4 c.kids (fun x hx => Nat.le_of_eq (kidB_len x))
  have h3 : (cntB c).length ≤ 1 := by unfold cntB; split <;> simp
  have hk := hF.kind
  have hrl := hF.rl
  have hkl := hF.kl
  simp only [contB, List.length_cons, List.length_append]
  have er : c.rows = [] → (c.rows.flatMap rowB).length = 0 := fun e => by rw [e]; rfl
  have ek : c.kids = [] → (c.kids.flatMap kidB).length = 0 := fun e => by rw [e]; rfl
  rcases hk with ⟨_, hr, hk⟩ | ⟨_, hk⟩ | ⟨_, hr, _⟩
  · have := er hr; have := ek hk; omega
  · have := ek hk; omega
  · have := er hr; omega
end Go.Proofs.E

namespace Go.Proofs.E
open Go Go.RowKit
set_option linter.unusedVariables false
set_option linter.unusedSimpArgs false
set_option linter.unusedSectionVars false
/-! ## what the laws of this chapter are handed -/
theorem opn_u8 {H : Type} {enc : TypeId × Value → H} {w : World} : Opn enc Try.prog w 5 (fun cs (b : UInt8) => cs = [u8c b]) := fun fuel cs x h => by
  obtain ⟨n, rfl, h1, h2⟩ := opn_int Try.underlying5 fuel cs x h
  simp only [lo, hi] at h1 h2
  refine ⟨UInt8.ofNat n.toNat, ?_⟩
  have : ((UInt8.ofNat n.toNat).toNat : Int) = n := by simp [UInt8.toNat_ofNat]; omega
  simp only [u8c, this]
theorem opn_bytes {H : Type} {enc : TypeId × Value → H} {w : World} : Opn enc Try.prog w 22 (RS (hpOf w) 1 (fun cs (b : UInt8) => cs = [u8c b])) :=
  opn_slice Try.underlying22 (by kernel_rfl) (by decide) opn_u8
theorem sIn_of {ρ : Hp} {cs : List Value} {s : Option Addr × Nat × Nat × List UInt8} (h : RS ρ 1 (fun cs (b : UInt8) => cs = [u8c b]) cs s) : SIn ρ u8c s.1 s.2.1 s.2.2.2 ∧ s.2.1 ≤ s.2.2.1 ∧ s.2.1 ≤ 9223372036854775807 := by
  obtain ⟨a, n, c, ks⟩ := s
  obtain ⟨h1, h2, h3, h4, h5⟩ := h
  dsimp only at h1 h2 h3 h4 h5 ⊢
  refine ⟨⟨h4, ?_⟩, h2, by omega⟩
  by_cases h0 : n = 0
  · exact .inl h0
  · right
    obtain ⟨b, off, C, T, fr, e1, e2, e3, e4⟩ := h5 0 (by omega)
    have same : ∀ i (h : i < ks.length), off + i * 1 + 1 ≤ C.length ∧ (C.drop (off + i * 1)).take 1 = [u8c ks[i]] := fun i hi => by
      obtain ⟨b', off', C', T', fr', f1, f2, f3, f4⟩ := h5 i hi
      rw [e1] at f1
      cases f1
      rw [e2] at f2
      cases f2
      exact ⟨f3, f4⟩
    refine ⟨b, off, C, T, fr, e1, e2, ?_⟩
    apply List.ext_getElem
    · have := (same (n - 1) (by omega)).1
      simp; omega
    · intro i h1 h2
      have hi : i < ks.length := by simpa using h2
      have h3 := (same i hi).2
      have h4 := congrArg (fun l : List Value => l[0]?) h3
      simp only [List.getElem?_cons_zero] at h4
      rw [List.getElem?_take_of_lt (by omega), List.getElem?_drop] at h4
      have h5 : C[off + i]? = some (u8c ks[i]) := by simpa using h4
      simp only [List.getElem_take, List.getElem_drop, List.getElem_map]
      exact (List.getElem?_eq_some_iff.1 h5).2
end Go.Proofs.E

namespace Go.Proofs.E
open Go
set_option linter.unusedVariables false
set_option linter.unusedSimpArgs false
set_option linter.unusedSectionVars false
set_option maxRecDepth 4000
set_option maxHeartbeats 1000000
attribute [local irreducible] Yl TL TC TE Spec YSpec R1 Hp.le EnvLe TS TR YS Stays
def shortR (r : Row) : Row := ⟨r.t, r.id, r.val, r.note.take 9⟩
def fewC (c : Cont) : Cont := ⟨c.kind, (c.rows.take 5).map shortR, c.kids.take 5⟩
theorem take_min9 (l : List UInt8) : l.take (min (l.length : Int) 9).toNat = l.take 9 := by
  by_cases h : l.length ≤ 9
  · rw [show (min (l.length : Int) 9).toNat = l.length by omega, List.take_of_length_le (Nat.le_refl _), List.take_of_length_le h]
  · rw [show (min (l.length : Int) 9).toNat = 9 by omega]
theorem short_spec (ρ : Hp) (r : Row) : Spec Try.prog 35 [.agg ⟨rowV r⟩] ρ [] (fun v ρ' L' => v = .agg ⟨rowV (shortR r)⟩ ∧ ρ' = ρ ∧ L' = []) := by
  obtain ⟨t, id, val, note⟩ := r
  have e := take_min9 note
  refine spec_enter Try.func35 rfl rfl rfl fun u R => ?_
  simp only [argsE, List.cons_append, List.nil_append, shortR]
  repeat' (first | (refine i_op ?_; first | (refine i_qq ?_; refine qQ ?_) | refine qEf ?_) | refine tl_nil ?_ | (refine i_tc ?_; refine qTc ?_) | (refine i_te ?_; refine qTe ?_) | intro _)
  rw [e]
  exact qE ⟨rfl, rfl, rfl⟩
structure CInW (ρ : Hp) (v : CV) (rows : List Row) (kids : List Kid) : Prop where
  r : AIn ρ 4 rowV v.ra v.rn rows
  k : AIn ρ 3 kidV v.ka v.kn kids
  rb : v.rn ≤ 9223372036854775807
  kb : v.kn ≤ 9223372036854775807
  rc : v.rn ≤ v.rc
  kc : v.kn ≤ v.kc
theorem CInW.mono {ρ ρ' v rows kids} (h : CInW ρ v rows kids) (hle : ρ.le ρ') : CInW ρ' v rows kids := ⟨h.r.mono hle, h.k.mono hle, h.rb, h.kb, h.rc, h.kc⟩
theorem flatK_one (l : List Kid) : ((l.map kidV).flatten).all (·.oneCell') = true := by
  induction l with
  | nil => rfl
  | cons k r ih => simp only [List.map_cons, List.flatten_cons, List.all_append, ih, Bool.and_true]; rfl
theorem few_spec (ρ : Hp) (w : CV) (c : Cont) (h : CInW ρ w c.rows c.kids) :
    Spec Try.prog 29 [.agg ⟨contV c.kind w⟩] ρ [] (fun v ρ' L' => ρ.le ρ' ∧ ∃ w', v = .agg ⟨contV c.kind w'⟩ ∧ CIn ρ' w' (fewC c).rows (fewC c).kids ∧ L' = []) := by
  obtain ⟨kind, rows, kids⟩ := c
  obtain ⟨ra, rn, rc, ka, kn, kc⟩ := w
  obtain ⟨hr, hk, hrb, hkb, hrc, hkc⟩ := h
  dsimp only at hr hk hrb hkb hrc hkc
  have hrl := hr.len
  have hkl := hk.len
  dsimp only [fewC, contV]
  obtain ⟨m, hm⟩ : ∃ m, m = min kn 5 := ⟨_, rfl⟩
  have hmt : (min (kn : Int) 5).toNat = m := by omega
  have hk5 := hk.take (hi' := m) (by omega)
  have hkt : kids.take m = kids.take 5 := by
    by_cases h5 : kn ≤ 5
    · rw [show m = kn by omega, List.take_of_length_le (by omega), List.take_of_length_le (by omega)]
    · rw [show m = 5 by omega]
  rw [hkt] at hk5
  have hm5 : m ≤ 5 := by omega
  refine spec_enter Try.func29 rfl rfl rfl fun u R => ?_
  simp only [argsE, List.cons_append, List.nil_append]
  repeat' (first | (refine i_op ?_; first | (refine i_qq ?_; refine qQ ?_) | refine qEf ?_) | refine tl_nil ?_ | (refine i_tc ?_; refine qTc ?_) | (refine i_te ?_; refine qTe ?_) | intro _)
  refine tc_loop_g [(1, _), (2, _), (7, _), (8, _)] (fun (ζ : (Nat) × (Value) × (List Value) × (List Row)) => [(9, .int .i64 ζ.1), (3, ζ.2.1)]) (fun (ζ : (Nat) × (Value) × (List Value) × (List Row)) => ρ) (fun (ζ : (Nat) × (Value) × (List Value) × (List Row)) => [ownC ζ.2.1 ((ζ.2.2.2.map rowV).flatten) ζ.2.2.1 28]) (fun (ζ : (Nat) × (Value) × (List Value) × (List Row)) => ζ.1 ≤ rn ∧ ζ.2.2.2 = ((rows.take (min ζ.1 5)).map shortR) ∧ ζ.2.2.2.length ≤ 5 ∧ OwnS ζ.2.1 ζ.2.2.2.length ((ζ.2.2.2.map rowV).flatten) ζ.2.2.1 4) (fun (ζ : (Nat) × (Value) × (List Value) × (List Row)) => rn - ζ.1) ((0, .slice none 0 0, [], [])) (⟨Nat.zero_le _, by simp, by simp, OwnS.nil 4⟩) ev_le ev_le rfl tk ?_
  rintro ⟨k, v, sp, acc⟩ hI
  try simp only [List.cons_append, List.nil_append, List.append_assoc, List.append_eq] at hI ⊢
  try dsimp only at hI ⊢
  obtain ⟨hk1, hacc, hal, hown⟩ := hI
  obtain ⟨va, vc, rfl, _⟩ := hown.len
  by_cases hlt : k < rn
  · obtain ⟨b, off, C, T, fr, rfl, hb, hfit, hc⟩ := hr.get (show k < rows.length by omega)
    have hts := List.take_succ_eq_append_getElem (show k < rows.length by omega)
    have hlen : (rows.take k).length = k := by simp; omega
    generalize rows[k]'(by omega) = x at *
    by_cases h4 : k ≤ 4
    · have hak : acc.length = k := by rw [hacc, show min k 5 = k by omega]; simp; omega
      have hacc' : acc ++ [shortR x] = ((rows.take (min (k + 1) 5)).map shortR) := by rw [hacc, show min k 5 = k by omega, show min (k + 1) 5 = k + 1 by omega, hts]; simp
      repeat' (first | (refine tl_is (.func 35) ?_; refine qC rfl rfl (short_spec _ x) ?_; rintro v ρ' L' hle ⟨rfl, rfl, rfl⟩ <;> (try simp only [List.cons_append, List.nil_append, List.append_eq])) | (refine i_op ?_; first | (refine i_qq ?_; refine qQ ?_) | refine qEf ?_) | refine tl_nil ?_ | (refine i_tc ?_; refine qTc ?_) | (refine i_te ?_; refine qTe ?_) | intro _)
      refine tl_buildSliceA (css := [rowV (shortR x)]) (sz := 4) rfl rfl rfl rfl (by simp) (by simp) rfl (fun bs => ?_)
      simp only [List.flatten_cons, List.flatten_nil, List.append_nil]
      refine tl_app (ys := rowV (shortR x)) (m := 1) rfl rfl hown (hR := by infer_instance) (SrcV.lit) rfl rfl (by decide) rfl (by omega) (by omega) rfl (fun v' sp' hown' => ?_)
      have hmm : (acc.map rowV).flatten ++ rowV (shortR x) = ((acc ++ [shortR x]).map rowV).flatten := by simp
      rw [hmm] at hown' ⊢
      repeat' (first | (refine i_op ?_; first | (refine i_qq ?_; refine qQ ?_) | refine qEf ?_) | refine tl_nil ?_ | (refine i_tc ?_; refine qTc ?_) | (refine i_te ?_; refine qTe ?_) | intro _)
      refine te_round_g (k + 1, v', sp', acc ++ [shortR x]) (⟨hlt, hacc', by simp; omega, by simpa using hown'⟩) ev_le ev_le rfl tk inferInstance (by first | omega | (dsimp only; omega))
    · have hacc' : acc = ((rows.take (min (k + 1) 5)).map shortR) := by rw [hacc, show min k 5 = 5 by omega, show min (k + 1) 5 = 5 by omega]
      repeat' (first | (refine i_op ?_; first | (refine i_qq ?_; refine qQ ?_) | refine qEf ?_) | refine tl_nil ?_ | (refine i_tc ?_; refine qTc ?_) | (refine i_te ?_; refine qTe ?_) | intro _)
      refine te_round_g (k + 1, _, sp, acc) (⟨hlt, hacc', hal, hown⟩) ev_le ev_le rfl tk inferInstance (by first | omega | (dsimp only; omega))
  · have hk2 : k = rn := by omega
    subst hk2
    have hfin : acc = (rows.take 5).map shortR := by
      rw [hacc]
      by_cases h5 : k ≤ 5
      · rw [show min k 5 = k by omega, List.take_of_length_le (by omega), List.take_of_length_le (by omega)]
      · rw [show min k 5 = 5 by omega]
    repeat' (first | (refine i_op ?_; first | (refine i_qq ?_; refine qQ ?_) | refine qEf ?_) | refine tl_nil ?_ | (refine i_tc ?_; refine qTc ?_) | (refine i_te ?_; refine qTe ?_) | intro _)
    rw [hmt]
    refine tl_app (n := 0) (xs := []) (sp := []) (ys := ((kids.take 5).map kidV).flatten) (m := m) (sz := 3) rfl rfl (OwnS.zero _ 3) (hR := rem_here') (AIn.srcV hk5) (by rw [flat_len kidV 3 _ (fun x _ => rfl), hk5.len]) (flatK_one _) (by decide) rfl (by omega) (by omega) rfl (fun v2 sp2 hown2 => ?_)
    simp only [Nat.zero_add, List.nil_append] at hown2 ⊢
    refine tl_freeze (ownC v2 ((kids.take 5).map kidV).flatten sp2 134) (fun ρ2 hle2 hfz2 => ?_)
    obtain ⟨a2, c2, rfl, hc2, hA2⟩ := hown2.aIn hk5.len (fun x _ => rfl) hfz2
    refine tl_freeze (ownC (.slice va acc.length vc) ((acc.map rowV).flatten) sp 28) (fun ρ3 hle3 hfz3 => ?_)
    obtain ⟨a3, c3, e3, hc3, hA3⟩ := hown.aIn rfl (fun x _ => rfl) hfz3
    cases e3
    repeat' (first | (refine i_op ?_; first | (refine i_qq ?_; refine qQ ?_) | refine qEf ?_) | refine tl_nil ?_ | (refine i_tc ?_; refine qTc ?_) | (refine i_te ?_; refine qTe ?_) | intro _)
    exact qE ⟨Hp.le_trans hle2 hle3, ⟨va, acc.length, vc, a2, m, c2⟩, rfl, ⟨by rw [← hfin]; exact hA3, hA2.mono hle3, by dsimp only; omega, by dsimp only; omega, hc3, hc2⟩, rfl⟩
end Go.Proofs.E

namespace Go.Proofs.E
open Go Go.RowKit
set_option linter.unusedVariables false
set_option linter.unusedSimpArgs false
set_option linter.unusedSectionVars false
set_option maxRecDepth 8000
/-! ## rows, kids, contents that came in -/
theorem rs_flat {α : Type} {sz : Nat} {g : α → List Value} {C : List Value} {off : Nat} : ∀ (l : List α) (k : Nat), k ≤ l.length → (∀ i (h : i < l.length), (C.drop (off + i * sz)).take sz = g l[i]) → (C.drop off).take (k * sz) = ((l.take k).map g).flatten
  | l, 0, _, _ => by simp
  | l, k + 1, hk, h => by
    have ih := rs_flat l k (by omega) h
    rw [show l.take (k + 1) = l.take k ++ [l[k]'(by omega)] from List.take_succ_eq_append_getElem (by omega), Nat.add_mul, Nat.one_mul, List.take_add, ih, List.drop_drop, h k (by omega)]
    simp only [List.map_append, List.flatten_append, List.map_cons, List.map_nil, List.flatten_cons, List.flatten_nil, List.append_nil]
theorem aIn_of {ρ : Hp} {α : Type} {sz : Nat} {g : α → List Value} {P : α → Prop} {cs : List Value} {s : Option Addr × Nat × Nat × List α} (hg : ∀ x, (g x).length = sz) (h : RS ρ sz (fun cs x => cs = g x ∧ P x) cs s) : AIn ρ sz g s.1 s.2.1 s.2.2.2 ∧ (∀ x ∈ s.2.2.2, P x) ∧ s.2.1 ≤ s.2.2.1 ∧ s.2.1 ≤ 9223372036854775807 := by
  obtain ⟨a, n, c, ks⟩ := s
  obtain ⟨h1, h2, h3, h4, h5⟩ := h
  dsimp only at h1 h2 h3 h4 h5 ⊢
  refine ⟨⟨h4, ?_, fun x _ => hg x⟩, fun x hx => ?_, h2, by omega⟩
  · by_cases h0 : n = 0
    · exact .inl h0
    · right
      obtain ⟨b, off, C, T, fr, e1, e2, e3, e4⟩ := h5 0 (by omega)
      have same : ∀ i (h : i < ks.length), off + i * sz + sz ≤ C.length ∧ (C.drop (off + i * sz)).take sz = g ks[i] := fun i hi => by
        obtain ⟨b', off', C', T', fr', f1, f2, f3, f4⟩ := h5 i hi
        rw [e1] at f1
        cases f1
        rw [e2] at f2
        cases f2
        exact ⟨f3, f4.1⟩
      refine ⟨b, off, C, T, fr, e1, e2, ?_, ?_⟩
      · have := (same (n - 1) (by omega)).1
        have e : n * sz = (n - 1) * sz + sz := by
          obtain ⟨m, rfl⟩ : ∃ m, n = m + 1 := ⟨n - 1, by omega⟩
          rw [Nat.add_mul]; simp
        omega
      · have := rs_flat (sz := sz) (g := g) ks n (by omega) (fun i hi => (same i hi).2)
        rw [this, List.take_of_length_le (by omega)]
  · obtain ⟨i, hi, rfl⟩ := List.mem_iff_getElem.1 hx
    obtain ⟨_, _, _, _, _, _, _, _, f⟩ := h5 i hi
    exact f.2
section
variable {H : Type} {enc : TypeId × Value → H} {w : World}
theorem opn_str : Opn enc Try.prog w 9 (fun cs (l : List UInt8) => cs = [strV l]) := fun fuel cs x h => by
  obtain ⟨s, rfl, _, _⟩ := DataW.trod_string Try.underlying9 h
  obtain ⟨⟨l⟩⟩ := s
  exact ⟨l, rfl⟩
theorem opn_key : Opn enc Try.prog w 26 (fun cs (k : Int × Nat) => cs = keyV k.1 k.2 ∧ k.2 < 65536) := fun fuel cs x h => by
  obtain ⟨hl, hf⟩ := opn_fields Try.underlying26 h
  have hl : cs.length = 2 := by rw [hl]; kernel_rfl
  obtain ⟨c0, c1, rfl⟩ : ∃ c0 c1, cs = [c0, c1] := by
    match cs, hl with
    | [c0, c1], _ => exact ⟨c0, c1, rfl⟩
  obtain ⟨t, h0, _⟩ := opn_field h Try.underlying26 0 0 1 rfl rfl rfl (by kernel_rfl) (opn_int Try.underlying3)
  obtain ⟨i, h1, i0, i1⟩ := opn_field h Try.underlying26 1 1 1 rfl rfl rfl (by kernel_rfl) (opn_int Try.underlying24)
  simp only [List.drop_zero, List.drop_succ_cons, List.take_succ_cons, List.take_zero, List.cons.injEq, and_true] at h0 h1
  subst h0; subst h1
  simp only [lo, hi] at i0 i1
  refine ⟨(t, i.toNat), ?_, by dsimp only; omega⟩
  have : ((i.toNat : Nat) : Int) = i := by omega
  simp only [keyV, this]
theorem opn_row : Opn enc Try.prog w 28 (fun cs (r : Row) => cs = rowV r ∧ RowFit r) := fun fuel cs x h => by
  obtain ⟨hl, hf⟩ := opn_fields Try.underlying28 h
  have hl : cs.length = 4 := by rw [hl]; kernel_rfl
  obtain ⟨c0, c1, c2, c3, rfl⟩ : ∃ c0 c1 c2 c3, cs = [c0, c1, c2, c3] := by
    match cs, hl with
    | [c0, c1, c2, c3], _ => exact ⟨c0, c1, c2, c3, rfl⟩
  obtain ⟨⟨t, i⟩, h0, hi0⟩ := opn_field h Try.underlying28 0 0 2 rfl rfl rfl (by kernel_rfl) opn_key
  obtain ⟨v, h1, v0, v1⟩ := opn_field h Try.underlying28 1 2 1 rfl rfl rfl (by kernel_rfl) (opn_int Try.underlying2)
  obtain ⟨s, h2⟩ := opn_field h Try.underlying28 2 3 1 rfl rfl rfl (by kernel_rfl) opn_str
  simp only [List.drop_zero, List.drop_succ_cons, List.take_succ_cons, List.take_zero, List.cons.injEq, and_true, keyV] at h0 h1 h2
  obtain ⟨rfl, rfl⟩ := h0
  subst h1; subst h2
  simp only [lo, hi] at v0 v1
  exact ⟨⟨t, i, v, s⟩, rfl, ⟨hi0, v0, v1⟩⟩
theorem opn_kid : Opn enc Try.prog w 134 (fun cs (k : Kid) => cs = kidV k ∧ k.id < 65536) := fun fuel cs x h => by
  obtain ⟨hl, hf⟩ := opn_fields Try.underlying134 h
  have hl : cs.length = 3 := by rw [hl]; kernel_rfl
  obtain ⟨c0, c1, c2, rfl⟩ : ∃ c0 c1 c2, cs = [c0, c1, c2] := by
    match cs, hl with
    | [c0, c1, c2], _ => exact ⟨c0, c1, c2, rfl⟩
  obtain ⟨⟨t, i⟩, h0, hi0⟩ := opn_field h Try.underlying134 0 0 2 rfl rfl rfl (by kernel_rfl) opn_key
  obtain ⟨v, h1, _⟩ := opn_field h Try.underlying134 1 2 1 rfl rfl rfl (by kernel_rfl) (opn_int Try.underlying3)
  simp only [List.drop_zero, List.drop_succ_cons, List.take_succ_cons, List.take_zero, List.cons.injEq, and_true, keyV] at h0 h1
  obtain ⟨rfl, rfl⟩ := h0
  subst h1
  exact ⟨⟨t, i, v⟩, rfl, hi0⟩
structure ContI (ρ : Hp) (x : CV × Cont) : Prop where
  c : CInW ρ x.1 x.2.rows x.2.kids
  row : ∀ r ∈ x.2.rows, RowFit r
  kid : ∀ k ∈ x.2.kids, k.id < 65536
theorem opn_cont : Opn enc Try.prog w 38 (fun cs (x : CV × Cont) => cs = contV x.2.kind x.1 ∧ ContI (hpOf w) x) := fun fuel cs x h => by
  obtain ⟨hl, hf⟩ := opn_fields Try.underlying38 h
  have hl : cs.length = 3 := by rw [hl]; kernel_rfl
  obtain ⟨c0, c1, c2, rfl⟩ : ∃ c0 c1 c2, cs = [c0, c1, c2] := by
    match cs, hl with
    | [c0, c1, c2], _ => exact ⟨c0, c1, c2, rfl⟩
  obtain ⟨k, h0, _⟩ := opn_field h Try.underlying38 0 0 1 rfl rfl rfl (by kernel_rfl) (opn_int Try.underlying3)
  obtain ⟨⟨ra, rn, rc, rows⟩, h1⟩ := opn_field h Try.underlying38 1 1 1 rfl rfl rfl (by kernel_rfl) (opn_slice (sz := 4) Try.underlying35 (by kernel_rfl) (by decide) opn_row)
  obtain ⟨⟨ka, kn, kc, kids⟩, h2⟩ := opn_field h Try.underlying38 2 2 1 rfl rfl rfl (by kernel_rfl) (opn_slice (sz := 3) Try.underlying36 (by kernel_rfl) (by decide) opn_kid)
  obtain ⟨g1, g2, g3, g4⟩ := aIn_of rowV_len h1
  obtain ⟨k1, k2, k3, k4⟩ := aIn_of kidV_len h2
  replace h1 := h1.cells
  replace h2 := h2.cells
  simp only [List.drop_zero, List.drop_succ_cons, List.take_succ_cons, List.take_zero, List.cons.injEq, and_true] at h0 h1 h2
  subst h0; subst h1; subst h2
  exact ⟨(⟨ra, rn, rc, ka, kn, kc⟩, ⟨k, rows, kids⟩), rfl, ⟨⟨g1, k1, g4, k4, g3, k3⟩, g2, k2⟩⟩
end
end Go.Proofs.E

namespace Go.Proofs.E
open Go
set_option linter.unusedVariables false
set_option linter.unusedSimpArgs false
set_option linter.unusedSectionVars false
set_option maxRecDepth 4000
set_option maxHeartbeats 1000000
attribute [local irreducible] Yl TL TC TE Spec YSpec R1 Hp.le EnvLe TS TR YS Stays
/-! ## the document's codec: what may be -/
theorem tableR_spec (ρ : Hp) (n : Int) : Spec Try.prog 93 [.int .i64 n] ρ [] (fun v ρ' L' => v = .bool (decide (0 ≤ n ∧ n < 3)) ∧ ρ' = ρ ∧ L' = []) := by
  refine spec_enter Try.func93 rfl rfl rfl fun u R => ?_
  simp only [argsE, List.cons_append, List.nil_append]
  by_cases h0 : 0 ≤ n
  · by_cases h1 : n < 3
    · rw [decide_eq_true ⟨h0, h1⟩]
      repeat' (first | (refine i_op ?_; first | (refine i_qq ?_; refine qQ ?_) | refine qEf ?_) | refine tl_nil ?_ | (refine i_tc ?_; refine qTc ?_) | (refine i_te ?_; refine qTe ?_) | intro _)
      exact qE ⟨rfl, rfl, rfl⟩
    · rw [decide_eq_false (fun h => h1 h.2)]
      repeat' (first | (refine i_op ?_; first | (refine i_qq ?_; refine qQ ?_) | refine qEf ?_) | refine tl_nil ?_ | (refine i_tc ?_; refine qTc ?_) | (refine i_te ?_; refine qTe ?_) | intro _)
      exact qE ⟨rfl, rfl, rfl⟩
  · rw [decide_eq_false (fun h => h0 h.1)]
    repeat' (first | (refine i_op ?_; first | (refine i_qq ?_; refine qQ ?_) | refine qEf ?_) | refine tl_nil ?_ | (refine i_tc ?_; refine qTc ?_) | (refine i_te ?_; refine qTe ?_) | intro _)
    exact qE ⟨rfl, rfl, rfl⟩
theorem order_spec (ρ : Hp) (t : Int) (id : Nat) (h0 : 0 ≤ t) (h3 : t < 3) (hid : id < 65536) : Spec Try.prog 154 [.agg ⟨keyV t id⟩] ρ [] (fun v ρ' L' => v = .int .i64 (t * 65536 + id) ∧ ρ' = ρ ∧ L' = []) := by
  refine spec_enter Try.func154 rfl rfl rfl fun u R => ?_
  simp only [argsE, List.cons_append, List.nil_append]
  repeat' (first | (refine i_op ?_; first | (refine i_qq ?_; refine qQ ?_) | refine qEf ?_) | refine tl_nil ?_ | (refine i_tc ?_; refine qTc ?_) | (refine i_te ?_; refine qTe ?_) | intro _)
  exact qE ⟨rfl, rfl, rfl⟩
theorem order_lt {t1 t2 : Int} {i1 i2 : Nat} (h1 : i1 < 65536) (h2 : i2 < 65536) : cmpK t1 i1 t2 i2 < 0 ↔ t1 * 65536 + i1 < t2 * 65536 + i2 := by
  rw [cmpK_lt]; omega
theorem rightRow_spec (ρ : Hp) (r : Row) : Spec Try.prog 36 [.agg ⟨rowV r⟩] ρ [] (fun v ρ' L' => v = .bool (rowOk r) ∧ ρ' = ρ ∧ L' = []) := by
  obtain ⟨t, id, val, note⟩ := r
  refine spec_enter Try.func36 rfl rfl rfl fun u R => ?_
  simp only [argsE, List.cons_append, List.nil_append, rowOk]
  by_cases h1 : 0 ≤ t ∧ t < 3
  · have hd : decide (0 ≤ t ∧ t < 3) = true := decide_eq_true h1
    by_cases h2 : note.length ≤ 8
    · rw [decide_eq_true ⟨h1, h2⟩]
      repeat' (first | (refine tl_is (.func 93) ?_; refine qC rfl rfl (tableR_spec _ _) ?_; rintro v ρ' L' hle ⟨rfl, rfl, rfl⟩ <;> (try simp only [List.cons_append, List.nil_append, List.append_eq, hd])) | (refine i_op ?_; first | (refine i_qq ?_; refine qQ ?_) | refine qEf ?_) | refine tl_nil ?_ | (refine i_tc ?_; refine qTc ?_) | (refine i_te ?_; refine qTe ?_) | intro _)
      exact qE ⟨rfl, rfl, rfl⟩
    · rw [decide_eq_false (fun h => h2 h.2)]
      repeat' (first | (refine tl_is (.func 93) ?_; refine qC rfl rfl (tableR_spec _ _) ?_; rintro v ρ' L' hle ⟨rfl, rfl, rfl⟩ <;> (try simp only [List.cons_append, List.nil_append, List.append_eq, hd])) | (refine i_op ?_; first | (refine i_qq ?_; refine qQ ?_) | refine qEf ?_) | refine tl_nil ?_ | (refine i_tc ?_; refine qTc ?_) | (refine i_te ?_; refine qTe ?_) | intro _)
      exact qE ⟨rfl, rfl, rfl⟩
  · have hd : decide (0 ≤ t ∧ t < 3) = false := decide_eq_false h1
    rw [decide_eq_false (fun h => h1 h.1)]
    repeat' (first | (refine tl_is (.func 93) ?_; refine qC rfl rfl (tableR_spec _ _) ?_; rintro v ρ' L' hle ⟨rfl, rfl, rfl⟩ <;> (try simp only [List.cons_append, List.nil_append, List.append_eq, hd])) | (refine i_op ?_; first | (refine i_qq ?_; refine qQ ?_) | refine qEf ?_) | refine tl_nil ?_ | (refine i_tc ?_; refine qTc ?_) | (refine i_te ?_; refine qTe ?_) | intro _)
    exact qE ⟨rfl, rfl, rfl⟩
theorem risesB_split {α : Type} {most : Nat} {right : Nat → α → Bool} {lt : α → α → Bool} {l : List α} : ∀ k, risesB most right lt l k = (decide (l.length ≤ most) && risesB l.length right lt l k)
  | 0 => by simp [risesB]
  | k + 1 => by rw [risesB, risesB_split k, risesB, Bool.and_assoc]
theorem rowsR_spec (ρ : Hp) (a : Option Addr) (n c : Nat) (l : List Row) (h : AIn ρ 4 rowV a n l) (hn : n ≤ 1000000) (hid : ∀ r ∈ l, r.id < 65536) :
    Spec Try.prog 86 [.slice a n c] ρ [] (fun v ρ' L' => v = .bool (rowsOk l) ∧ ρ' = ρ ∧ L' = []) := by
  have hl := h.len
  unfold rowsOk
  rw [risesB_split, hl]
  refine spec_enter Try.func86 rfl rfl rfl fun u R => ?_
  simp only [argsE, List.cons_append, List.nil_append]
  generalize hrt : (fun (_ : Nat) (r : Row) => rowOk r) = rt
  repeat' (first | (refine i_op ?_; first | (refine i_qq ?_; refine qQ ?_) | refine qEf ?_) | refine tl_nil ?_ | (refine i_tc ?_; refine qTc ?_) | (refine i_te ?_; refine qTe ?_) | intro _)
  refine tc_loop_g [(0, _), (2, _), (5, _), (6, _)] (fun (ζ : (Nat)) => [(7, .int .i64 ζ)]) (fun (ζ : (Nat)) => ρ) (fun (ζ : (Nat)) => []) (fun (ζ : (Nat)) => ζ ≤ n ∧ risesB n rt ltR l ζ = true) (fun (ζ : (Nat)) => n - ζ) (0) (⟨Nat.zero_le _, by rw [risesB, hl]; exact decide_eq_true (Nat.le_refl _)⟩) ev_le ev_le rfl tk ?_
  rintro k hI
  try simp only [List.cons_append, List.nil_append, List.append_assoc, List.append_eq] at hI ⊢
  try dsimp only at hI ⊢
  obtain ⟨hk, hok⟩ := hI
  by_cases hlt : k < n
  · obtain ⟨b, off, C, T, fr, rfl, hb, hfit, hc⟩ := h.get (show k < l.length by omega)
    have hs := risesB_succ (most := n) (right := rt) (lt := ltR) (show k < l.length by omega)
    rw [hok, Bool.true_and] at hs
    have hrk : rt k (l[k]'(by omega)) = rowOk (l[k]'(by omega)) := by rw [← hrt]
    rw [hrk] at hs
    have hfin := fun (e : risesB n rt ltR l (k + 1) = false) => risesB_false' e (show k + 1 ≤ n by omega)
    have hmem : l[k]'(by omega) ∈ l := List.getElem_mem _
    have hidk := hid _ hmem
    cases hx : rowOk (l[k]'(by omega))
    · rw [hx, Bool.false_and] at hs
      rw [hfin hs, Bool.and_false]
      generalize l[k]'(by omega) = x at *
      repeat' (first | (refine i_op ?_; first | (refine i_qq ?_; refine qQ ?_) | refine qEf ?_) | refine tl_nil ?_ | (refine i_tc ?_; refine qTc ?_) | (refine i_te ?_; refine qTe ?_) | intro _)
      refine tc_any (Stays _ _ _) stays_refl ?_
      all_goals refine rLd 0 ?_
      all_goals (refine rStep (i := 1) ?_; ((try refine qWant ?_); (first | (refine tl_is (.func 36) ?_; refine qC rfl rfl (rightRow_spec _ x) ?_; rintro v ρ' L' hle ⟨rfl, rfl, rfl⟩ <;> (try simp only [List.cons_append, List.nil_append, List.append_eq, hx])) | (refine qEf ?_; try intro _)) <;> ((try simp only [List.cons_append, List.nil_append, List.append_eq]); refine tl_nil ?_; refine rNext ?_)))
      all_goals refine rUn 2 ?_
      all_goals refine rMv 3 ?_
      all_goals (first | refine wSkip 4 ?_ | refine wSkipU 4 ?_ | refine wMv 4 ?_ | (refine tr_guard (t := 15) rfl (fun hb => ?_) (fun hb => ?_) <;> (try simp only [decide_eq_true_eq, decide_eq_false_iff_not, Bool.not_eq_true, Bool.not_eq_false, beq_iff_eq, bne_iff_ne, ne_eq, Bool.not_eq_eq_eq_not, Bool.not_true, Bool.not_false, beq_eq_false_iff_ne, bne_eq_false_iff_eq] at hb) <;> first | refine wSkip 4 ?_ | refine wSkipU 4 ?_ | refine wMv 4 ?_))
      all_goals (first | refine wSkip 5 ?_ | refine wSkipU 5 ?_ | refine wCm 5 ?_ | (refine tr_guard (t := 15) rfl (fun hb => ?_) (fun hb => ?_) <;> (try simp only [decide_eq_true_eq, decide_eq_false_iff_not, Bool.not_eq_true, Bool.not_eq_false, beq_iff_eq, bne_iff_ne, ne_eq, Bool.not_eq_eq_eq_not, Bool.not_true, Bool.not_false, beq_eq_false_iff_ne, bne_eq_false_iff_eq] at hb) <;> first | refine wSkip 5 ?_ | refine wSkipU 5 ?_ | refine wCm 5 ?_))
      all_goals (first | refine wSkip 6 ?_ | refine wSkipU 6 ?_ | refine wMv 6 ?_ | (refine tr_guard (t := 15) rfl (fun hb => ?_) (fun hb => ?_) <;> (try simp only [decide_eq_true_eq, decide_eq_false_iff_not, Bool.not_eq_true, Bool.not_eq_false, beq_iff_eq, bne_iff_ne, ne_eq, Bool.not_eq_eq_eq_not, Bool.not_true, Bool.not_false, beq_eq_false_iff_ne, bne_eq_false_iff_eq] at hb) <;> first | refine wSkip 6 ?_ | refine wSkipU 6 ?_ | refine wMv 6 ?_))
      all_goals (first | refine wSkip 7 ?_ | refine wSkipU 7 ?_ | refine wMv 7 ?_ | (refine tr_guard (t := 18) rfl (fun hb => ?_) (fun hb => ?_) <;> (try simp only [decide_eq_true_eq, decide_eq_false_iff_not, Bool.not_eq_true, Bool.not_eq_false, beq_iff_eq, bne_iff_ne, ne_eq, Bool.not_eq_eq_eq_not, Bool.not_true, Bool.not_false, beq_eq_false_iff_ne, bne_eq_false_iff_eq] at hb) <;> first | refine wSkip 7 ?_ | refine wSkipU 7 ?_ | refine wMv 7 ?_))
      all_goals (first | refine wSkip 8 ?_ | refine wSkipU 8 ?_ | refine wMv 8 ?_ | (refine tr_guard (t := 18) rfl (fun hb => ?_) (fun hb => ?_) <;> (try simp only [decide_eq_true_eq, decide_eq_false_iff_not, Bool.not_eq_true, Bool.not_eq_false, beq_iff_eq, bne_iff_ne, ne_eq, Bool.not_eq_eq_eq_not, Bool.not_true, Bool.not_false, beq_eq_false_iff_ne, bne_eq_false_iff_eq] at hb) <;> first | refine wSkip 8 ?_ | refine wSkipU 8 ?_ | refine wMv 8 ?_))
      all_goals (first | refine wSkip 9 ?_ | refine wSkipU 9 ?_ | refine wSb 9 ?_ | (refine tr_guard (t := 18) rfl (fun hb => ?_) (fun hb => ?_) <;> (try simp only [decide_eq_true_eq, decide_eq_false_iff_not, Bool.not_eq_true, Bool.not_eq_false, beq_iff_eq, bne_iff_ne, ne_eq, Bool.not_eq_eq_eq_not, Bool.not_true, Bool.not_false, beq_eq_false_iff_ne, bne_eq_false_iff_eq] at hb) <;> first | refine wSkip 9 ?_ | refine wSkipU 9 ?_ | refine wSb 9 ?_))
      all_goals (first | refine wSkip 10 ?_ | refine wSkipU 10 ?_ | refine wIa 10 ?_ | (refine tr_guard (t := 18) rfl (fun hb => ?_) (fun hb => ?_) <;> (try simp only [decide_eq_true_eq, decide_eq_false_iff_not, Bool.not_eq_true, Bool.not_eq_false, beq_iff_eq, bne_iff_ne, ne_eq, Bool.not_eq_eq_eq_not, Bool.not_true, Bool.not_false, beq_eq_false_iff_ne, bne_eq_false_iff_eq] at hb) <;> first | refine wSkip 10 ?_ | refine wSkipU 10 ?_ | refine wIa 10 ?_))
      all_goals (first | refine wSkip 11 ?_ | refine wSkipU 11 ?_ | refine wFa 11 ?_ | (refine tr_guard (t := 18) rfl (fun hb => ?_) (fun hb => ?_) <;> (try simp only [decide_eq_true_eq, decide_eq_false_iff_not, Bool.not_eq_true, Bool.not_eq_false, beq_iff_eq, bne_iff_ne, ne_eq, Bool.not_eq_eq_eq_not, Bool.not_true, Bool.not_false, beq_eq_false_iff_ne, bne_eq_false_iff_eq] at hb) <;> first | refine wSkip 11 ?_ | refine wSkipU 11 ?_ | refine wFa 11 ?_))
      all_goals (first | refine wSkip 12 ?_ | refine wSkipU 12 ?_ | refine wLd 12 ?_ | (refine tr_guard (t := 18) rfl (fun hb => ?_) (fun hb => ?_) <;> (try simp only [decide_eq_true_eq, decide_eq_false_iff_not, Bool.not_eq_true, Bool.not_eq_false, beq_iff_eq, bne_iff_ne, ne_eq, Bool.not_eq_eq_eq_not, Bool.not_true, Bool.not_false, beq_eq_false_iff_ne, bne_eq_false_iff_eq] at hb) <;> first | refine wSkip 12 ?_ | refine wSkipU 12 ?_ | refine wLd 12 ?_))
      all_goals (first | refine wSkip 14 ?_ | refine wSkipU 14 ?_ | refine wFa 14 ?_ | (refine tr_guard (t := 18) rfl (fun hb => ?_) (fun hb => ?_) <;> (try simp only [decide_eq_true_eq, decide_eq_false_iff_not, Bool.not_eq_true, Bool.not_eq_false, beq_iff_eq, bne_iff_ne, ne_eq, Bool.not_eq_eq_eq_not, Bool.not_true, Bool.not_false, beq_eq_false_iff_ne, bne_eq_false_iff_eq] at hb) <;> first | refine wSkip 14 ?_ | refine wSkipU 14 ?_ | refine wFa 14 ?_))
      all_goals (first | refine wSkip 15 ?_ | refine wSkipU 15 ?_ | refine wLd 15 ?_ | (refine tr_guard (t := 18) rfl (fun hb => ?_) (fun hb => ?_) <;> (try simp only [decide_eq_true_eq, decide_eq_false_iff_not, Bool.not_eq_true, Bool.not_eq_false, beq_iff_eq, bne_iff_ne, ne_eq, Bool.not_eq_eq_eq_not, Bool.not_true, Bool.not_false, beq_eq_false_iff_ne, bne_eq_false_iff_eq] at hb) <;> first | refine wSkip 15 ?_ | refine wSkipU 15 ?_ | refine wLd 15 ?_))
      all_goals (first | refine wSkip 13 ?_ | refine wSkipU 13 ?_ | (refine rStep (i := 13) ?_; ((try refine qWant ?_); (first | (refine qEf ?_; try intro _)) <;> ((try simp only [List.cons_append, List.nil_append, List.append_eq]); refine tl_nil ?_; refine rNext ?_))))
      all_goals (first | refine wSkip 16 ?_ | refine wSkipU 16 ?_ | (refine rStep (i := 16) ?_; ((try refine qWant ?_); (first | (refine qEf ?_; try intro _)) <;> ((try simp only [List.cons_append, List.nil_append, List.append_eq]); refine tl_nil ?_; refine rNext ?_))))
      all_goals refine rFull ?_
      all_goals (first | refine wSkip 17 ?_ | refine wSkipU 17 ?_ | refine wCm 17 ?_ | (refine tr_guard (t := 18) rfl (fun hb => ?_) (fun hb => ?_) <;> (try simp only [decide_eq_true_eq, decide_eq_false_iff_not, Bool.not_eq_true, Bool.not_eq_false, beq_iff_eq, bne_iff_ne, ne_eq, Bool.not_eq_eq_eq_not, Bool.not_true, Bool.not_false, beq_eq_false_iff_ne, bne_eq_false_iff_eq] at hb) <;> first | refine wSkip 17 ?_ | refine wSkipU 17 ?_ | refine wCm 17 ?_))
      all_goals (first | refine wSkip 18 ?_ | refine wSkipU 18 ?_ | refine wPk 18 ?_ | (refine tr_guard (t := 15) rfl (fun hb => ?_) (fun hb => ?_) <;> (try simp only [decide_eq_true_eq, decide_eq_false_iff_not, Bool.not_eq_true, Bool.not_eq_false, beq_iff_eq, bne_iff_ne, ne_eq, Bool.not_eq_eq_eq_not, Bool.not_true, Bool.not_false, beq_eq_false_iff_ne, bne_eq_false_iff_eq] at hb) <;> first | refine wSkip 18 ?_ | refine wSkipU 18 ?_ | refine wPk 18 ?_))
      all_goals refine rPk 19 ?_
      all_goals refine rDone ?_
      repeat' (first | (refine i_op ?_; first | (refine i_qq ?_; refine qQ ?_) | refine qEf ?_) | refine tl_nil ?_ | (refine i_tc ?_; refine qTc ?_) | (refine i_te ?_; refine qTe ?_) | intro _)
      exact qE ⟨rfl, rfl, rfl⟩
    · rw [hx, Bool.true_and] at hs
      by_cases hk0 : k = 0
      · have hs' : risesB n rt ltR l (k + 1) = true := by rw [hs]; simp [hk0]
        generalize l[k]'(by omega) = x at *
        repeat' (first | (refine i_op ?_; first | (refine i_qq ?_; refine qQ ?_) | refine qEf ?_) | refine tl_nil ?_ | (refine i_tc ?_; refine qTc ?_) | (refine i_te ?_; refine qTe ?_) | intro _)
        refine tc_any (Stays _ _ _) stays_refl ?_
        all_goals refine rLd 0 ?_
        all_goals (refine rStep (i := 1) ?_; ((try refine qWant ?_); (first | (refine tl_is (.func 36) ?_; refine qC rfl rfl (rightRow_spec _ x) ?_; rintro v ρ' L' hle ⟨rfl, rfl, rfl⟩ <;> (try simp only [List.cons_append, List.nil_append, List.append_eq, hx])) | (refine qEf ?_; try intro _)) <;> ((try simp only [List.cons_append, List.nil_append, List.append_eq]); refine tl_nil ?_; refine rNext ?_)))
        all_goals refine rUn 2 ?_
        all_goals refine rMv 3 ?_
        all_goals (first | refine wSkip 4 ?_ | refine wSkipU 4 ?_ | refine wMv 4 ?_ | (refine tr_guard (t := 15) rfl (fun hb => ?_) (fun hb => ?_) <;> (try simp only [decide_eq_true_eq, decide_eq_false_iff_not, Bool.not_eq_true, Bool.not_eq_false, beq_iff_eq, bne_iff_ne, ne_eq, Bool.not_eq_eq_eq_not, Bool.not_true, Bool.not_false, beq_eq_false_iff_ne, bne_eq_false_iff_eq] at hb) <;> first | refine wSkip 4 ?_ | refine wSkipU 4 ?_ | refine wMv 4 ?_))
        all_goals (first | refine wSkip 5 ?_ | refine wSkipU 5 ?_ | refine wCm 5 ?_ | (refine tr_guard (t := 15) rfl (fun hb => ?_) (fun hb => ?_) <;> (try simp only [decide_eq_true_eq, decide_eq_false_iff_not, Bool.not_eq_true, Bool.not_eq_false, beq_iff_eq, bne_iff_ne, ne_eq, Bool.not_eq_eq_eq_not, Bool.not_true, Bool.not_false, beq_eq_false_iff_ne, bne_eq_false_iff_eq] at hb) <;> first | refine wSkip 5 ?_ | refine wSkipU 5 ?_ | refine wCm 5 ?_))
        all_goals (first | refine wSkip 6 ?_ | refine wSkipU 6 ?_ | refine wMv 6 ?_ | (refine tr_guard (t := 15) rfl (fun hb => ?_) (fun hb => ?_) <;> (try simp only [decide_eq_true_eq, decide_eq_false_iff_not, Bool.not_eq_true, Bool.not_eq_false, beq_iff_eq, bne_iff_ne, ne_eq, Bool.not_eq_eq_eq_not, Bool.not_true, Bool.not_false, beq_eq_false_iff_ne, bne_eq_false_iff_eq] at hb) <;> first | refine wSkip 6 ?_ | refine wSkipU 6 ?_ | refine wMv 6 ?_))
        all_goals (first | refine wSkip 7 ?_ | refine wSkipU 7 ?_ | refine wMv 7 ?_ | (refine tr_guard (t := 18) rfl (fun hb => ?_) (fun hb => ?_) <;> (try simp only [decide_eq_true_eq, decide_eq_false_iff_not, Bool.not_eq_true, Bool.not_eq_false, beq_iff_eq, bne_iff_ne, ne_eq, Bool.not_eq_eq_eq_not, Bool.not_true, Bool.not_false, beq_eq_false_iff_ne, bne_eq_false_iff_eq] at hb) <;> first | refine wSkip 7 ?_ | refine wSkipU 7 ?_ | refine wMv 7 ?_))
        all_goals (first | refine wSkip 8 ?_ | refine wSkipU 8 ?_ | refine wMv 8 ?_ | (refine tr_guard (t := 18) rfl (fun hb => ?_) (fun hb => ?_) <;> (try simp only [decide_eq_true_eq, decide_eq_false_iff_not, Bool.not_eq_true, Bool.not_eq_false, beq_iff_eq, bne_iff_ne, ne_eq, Bool.not_eq_eq_eq_not, Bool.not_true, Bool.not_false, beq_eq_false_iff_ne, bne_eq_false_iff_eq] at hb) <;> first | refine wSkip 8 ?_ | refine wSkipU 8 ?_ | refine wMv 8 ?_))
        all_goals (first | refine wSkip 9 ?_ | refine wSkipU 9 ?_ | refine wSb 9 ?_ | (refine tr_guard (t := 18) rfl (fun hb => ?_) (fun hb => ?_) <;> (try simp only [decide_eq_true_eq, decide_eq_false_iff_not, Bool.not_eq_true, Bool.not_eq_false, beq_iff_eq, bne_iff_ne, ne_eq, Bool.not_eq_eq_eq_not, Bool.not_true, Bool.not_false, beq_eq_false_iff_ne, bne_eq_false_iff_eq] at hb) <;> first | refine wSkip 9 ?_ | refine wSkipU 9 ?_ | refine wSb 9 ?_))
        all_goals (first | refine wSkip 10 ?_ | refine wSkipU 10 ?_ | refine wIa 10 ?_ | (refine tr_guard (t := 18) rfl (fun hb => ?_) (fun hb => ?_) <;> (try simp only [decide_eq_true_eq, decide_eq_false_iff_not, Bool.not_eq_true, Bool.not_eq_false, beq_iff_eq, bne_iff_ne, ne_eq, Bool.not_eq_eq_eq_not, Bool.not_true, Bool.not_false, beq_eq_false_iff_ne, bne_eq_false_iff_eq] at hb) <;> first | refine wSkip 10 ?_ | refine wSkipU 10 ?_ | refine wIa 10 ?_))
        all_goals (first | refine wSkip 11 ?_ | refine wSkipU 11 ?_ | refine wFa 11 ?_ | (refine tr_guard (t := 18) rfl (fun hb => ?_) (fun hb => ?_) <;> (try simp only [decide_eq_true_eq, decide_eq_false_iff_not, Bool.not_eq_true, Bool.not_eq_false, beq_iff_eq, bne_iff_ne, ne_eq, Bool.not_eq_eq_eq_not, Bool.not_true, Bool.not_false, beq_eq_false_iff_ne, bne_eq_false_iff_eq] at hb) <;> first | refine wSkip 11 ?_ | refine wSkipU 11 ?_ | refine wFa 11 ?_))
        all_goals (first | refine wSkip 12 ?_ | refine wSkipU 12 ?_ | refine wLd 12 ?_ | (refine tr_guard (t := 18) rfl (fun hb => ?_) (fun hb => ?_) <;> (try simp only [decide_eq_true_eq, decide_eq_false_iff_not, Bool.not_eq_true, Bool.not_eq_false, beq_iff_eq, bne_iff_ne, ne_eq, Bool.not_eq_eq_eq_not, Bool.not_true, Bool.not_false, beq_eq_false_iff_ne, bne_eq_false_iff_eq] at hb) <;> first | refine wSkip 12 ?_ | refine wSkipU 12 ?_ | refine wLd 12 ?_))
        all_goals (first | refine wSkip 14 ?_ | refine wSkipU 14 ?_ | refine wFa 14 ?_ | (refine tr_guard (t := 18) rfl (fun hb => ?_) (fun hb => ?_) <;> (try simp only [decide_eq_true_eq, decide_eq_false_iff_not, Bool.not_eq_true, Bool.not_eq_false, beq_iff_eq, bne_iff_ne, ne_eq, Bool.not_eq_eq_eq_not, Bool.not_true, Bool.not_false, beq_eq_false_iff_ne, bne_eq_false_iff_eq] at hb) <;> first | refine wSkip 14 ?_ | refine wSkipU 14 ?_ | refine wFa 14 ?_))
        all_goals (first | refine wSkip 15 ?_ | refine wSkipU 15 ?_ | refine wLd 15 ?_ | (refine tr_guard (t := 18) rfl (fun hb => ?_) (fun hb => ?_) <;> (try simp only [decide_eq_true_eq, decide_eq_false_iff_not, Bool.not_eq_true, Bool.not_eq_false, beq_iff_eq, bne_iff_ne, ne_eq, Bool.not_eq_eq_eq_not, Bool.not_true, Bool.not_false, beq_eq_false_iff_ne, bne_eq_false_iff_eq] at hb) <;> first | refine wSkip 15 ?_ | refine wSkipU 15 ?_ | refine wLd 15 ?_))
        all_goals (first | refine wSkip 13 ?_ | refine wSkipU 13 ?_ | (refine rStep (i := 13) ?_; ((try refine qWant ?_); (first | (refine qEf ?_; try intro _)) <;> ((try simp only [List.cons_append, List.nil_append, List.append_eq]); refine tl_nil ?_; refine rNext ?_))))
        all_goals (first | refine wSkip 16 ?_ | refine wSkipU 16 ?_ | (refine rStep (i := 16) ?_; ((try refine qWant ?_); (first | (refine qEf ?_; try intro _)) <;> ((try simp only [List.cons_append, List.nil_append, List.append_eq]); refine tl_nil ?_; refine rNext ?_))))
        all_goals refine rFull ?_
        all_goals (first | refine wSkip 17 ?_ | refine wSkipU 17 ?_ | refine wCm 17 ?_ | (refine tr_guard (t := 18) rfl (fun hb => ?_) (fun hb => ?_) <;> (try simp only [decide_eq_true_eq, decide_eq_false_iff_not, Bool.not_eq_true, Bool.not_eq_false, beq_iff_eq, bne_iff_ne, ne_eq, Bool.not_eq_eq_eq_not, Bool.not_true, Bool.not_false, beq_eq_false_iff_ne, bne_eq_false_iff_eq] at hb) <;> first | refine wSkip 17 ?_ | refine wSkipU 17 ?_ | refine wCm 17 ?_))
        all_goals (first | refine wSkip 18 ?_ | refine wSkipU 18 ?_ | refine wPk 18 ?_ | (refine tr_guard (t := 15) rfl (fun hb => ?_) (fun hb => ?_) <;> (try simp only [decide_eq_true_eq, decide_eq_false_iff_not, Bool.not_eq_true, Bool.not_eq_false, beq_iff_eq, bne_iff_ne, ne_eq, Bool.not_eq_eq_eq_not, Bool.not_true, Bool.not_false, beq_eq_false_iff_ne, bne_eq_false_iff_eq] at hb) <;> first | refine wSkip 18 ?_ | refine wSkipU 18 ?_ | refine wPk 18 ?_))
        all_goals refine rPk 19 ?_
        all_goals refine rDone ?_
        repeat' (first | (refine i_op ?_; first | (refine i_qq ?_; refine qQ ?_) | refine qEf ?_) | refine tl_nil ?_ | (refine i_tc ?_; refine qTc ?_) | (refine i_te ?_; refine qTe ?_) | intro _)
        refine te_round_g (k + 1) (⟨hlt, hs'⟩) ev_le ev_le rfl tk inferInstance (by first | omega | (dsimp only; omega))
      · have hd : decide (k = 0) = false := decide_eq_false hk0
        rw [hd, Bool.false_or] at hs
        obtain ⟨b2, off2, C2, T2, fr2, f1, hb2, hfit2, hc2⟩ := h.get (show k - 1 < l.length by omega)
        cases f1
        rw [hb] at hb2
        cases hb2
        have ek : ((k : Int) - 1).toNat = k - 1 := by omega
        have hkey : List.take 2 (List.drop (off + ((k : Int) - 1).toNat * 4) C) = keyV (l[k - 1]'(by omega)).t (l[k - 1]'(by omega)).id := by
          rw [ek]
          have := congrArg (List.take 2) hc2
          rw [List.take_take] at this
          exact this
        have hfit3 : off + ((k : Int) - 1).toNat * 4 + 2 ≤ C.length := by rw [ek]; omega
        obtain ⟨g1, g2⟩ := risesB_true hok (by omega)
        have hrp := (g2 (k - 1) (by omega) (by omega)).1
        have hrk1 : rt (k - 1) (l[k - 1]'(by omega)) = rowOk (l[k - 1]'(by omega)) := by rw [← hrt]
        rw [hrk1] at hrp
        have hidp := hid _ (List.getElem_mem (show k - 1 < l.length by omega))
        clear hc2 hfit2 hrk hrk1
        generalize l[k]'(by omega) = x at *
        generalize l[k - 1]'(by omega) = y at *
        obtain ⟨y0, y3, _⟩ := rowOk_iff hrp
        obtain ⟨x0, x3, _⟩ := rowOk_iff hx
        have hor := order_lt (t1 := y.t) (t2 := x.t) hidp hidk
        unfold ltR at hs
        by_cases hcm : cmpK y.t y.id x.t x.id < 0
        · rw [decide_eq_true hcm] at hs
          have hcm2 := hor.1 hcm
          repeat' (first | (refine i_op ?_; first | (refine i_qq ?_; refine qQ ?_) | refine qEf ?_) | refine tl_nil ?_ | (refine i_tc ?_; refine qTc ?_) | (refine i_te ?_; refine qTe ?_) | intro _)
          refine tc_any (Stays _ _ _) stays_refl ?_
          all_goals refine rLd 0 ?_
          all_goals (refine rStep (i := 1) ?_; ((try refine qWant ?_); (first | (refine tl_is (.func 36) ?_; refine qC rfl rfl (rightRow_spec _ x) ?_; rintro v ρ' L' hle ⟨rfl, rfl, rfl⟩ <;> (try simp only [List.cons_append, List.nil_append, List.append_eq, hx])) | (refine qEf ?_; try intro _)) <;> ((try simp only [List.cons_append, List.nil_append, List.append_eq]); refine tl_nil ?_; refine rNext ?_)))
          all_goals refine rUn 2 ?_
          all_goals refine rMv 3 ?_
          all_goals (first | refine wSkip 4 ?_ | refine wSkipU 4 ?_ | refine wMv 4 ?_ | (refine tr_guard (t := 15) rfl (fun hb => ?_) (fun hb => ?_) <;> (try simp only [decide_eq_true_eq, decide_eq_false_iff_not, Bool.not_eq_true, Bool.not_eq_false, beq_iff_eq, bne_iff_ne, ne_eq, Bool.not_eq_eq_eq_not, Bool.not_true, Bool.not_false, beq_eq_false_iff_ne, bne_eq_false_iff_eq] at hb) <;> first | refine wSkip 4 ?_ | refine wSkipU 4 ?_ | refine wMv 4 ?_))
          all_goals (first | refine wSkip 5 ?_ | refine wSkipU 5 ?_ | refine wCm 5 ?_ | (refine tr_guard (t := 15) rfl (fun hb => ?_) (fun hb => ?_) <;> (try simp only [decide_eq_true_eq, decide_eq_false_iff_not, Bool.not_eq_true, Bool.not_eq_false, beq_iff_eq, bne_iff_ne, ne_eq, Bool.not_eq_eq_eq_not, Bool.not_true, Bool.not_false, beq_eq_false_iff_ne, bne_eq_false_iff_eq] at hb) <;> first | refine wSkip 5 ?_ | refine wSkipU 5 ?_ | refine wCm 5 ?_))
          all_goals (first | refine wSkip 6 ?_ | refine wSkipU 6 ?_ | refine wMv 6 ?_ | (refine tr_guard (t := 15) rfl (fun hb => ?_) (fun hb => ?_) <;> (try simp only [decide_eq_true_eq, decide_eq_false_iff_not, Bool.not_eq_true, Bool.not_eq_false, beq_iff_eq, bne_iff_ne, ne_eq, Bool.not_eq_eq_eq_not, Bool.not_true, Bool.not_false, beq_eq_false_iff_ne, bne_eq_false_iff_eq] at hb) <;> first | refine wSkip 6 ?_ | refine wSkipU 6 ?_ | refine wMv 6 ?_))
          all_goals (first | refine wSkip 7 ?_ | refine wSkipU 7 ?_ | refine wMv 7 ?_ | (refine tr_guard (t := 18) rfl (fun hb => ?_) (fun hb => ?_) <;> (try simp only [decide_eq_true_eq, decide_eq_false_iff_not, Bool.not_eq_true, Bool.not_eq_false, beq_iff_eq, bne_iff_ne, ne_eq, Bool.not_eq_eq_eq_not, Bool.not_true, Bool.not_false, beq_eq_false_iff_ne, bne_eq_false_iff_eq] at hb) <;> first | refine wSkip 7 ?_ | refine wSkipU 7 ?_ | refine wMv 7 ?_))
          all_goals (first | refine wSkip 8 ?_ | refine wSkipU 8 ?_ | refine wMv 8 ?_ | (refine tr_guard (t := 18) rfl (fun hb => ?_) (fun hb => ?_) <;> (try simp only [decide_eq_true_eq, decide_eq_false_iff_not, Bool.not_eq_true, Bool.not_eq_false, beq_iff_eq, bne_iff_ne, ne_eq, Bool.not_eq_eq_eq_not, Bool.not_true, Bool.not_false, beq_eq_false_iff_ne, bne_eq_false_iff_eq] at hb) <;> first | refine wSkip 8 ?_ | refine wSkipU 8 ?_ | refine wMv 8 ?_))
          all_goals (first | refine wSkip 9 ?_ | refine wSkipU 9 ?_ | refine wSb 9 ?_ | (refine tr_guard (t := 18) rfl (fun hb => ?_) (fun hb => ?_) <;> (try simp only [decide_eq_true_eq, decide_eq_false_iff_not, Bool.not_eq_true, Bool.not_eq_false, beq_iff_eq, bne_iff_ne, ne_eq, Bool.not_eq_eq_eq_not, Bool.not_true, Bool.not_false, beq_eq_false_iff_ne, bne_eq_false_iff_eq] at hb) <;> first | refine wSkip 9 ?_ | refine wSkipU 9 ?_ | refine wSb 9 ?_))
          all_goals (first | refine wSkip 10 ?_ | refine wSkipU 10 ?_ | refine wIa 10 ?_ | (refine tr_guard (t := 18) rfl (fun hb => ?_) (fun hb => ?_) <;> (try simp only [decide_eq_true_eq, decide_eq_false_iff_not, Bool.not_eq_true, Bool.not_eq_false, beq_iff_eq, bne_iff_ne, ne_eq, Bool.not_eq_eq_eq_not, Bool.not_true, Bool.not_false, beq_eq_false_iff_ne, bne_eq_false_iff_eq] at hb) <;> first | refine wSkip 10 ?_ | refine wSkipU 10 ?_ | refine wIa 10 ?_))
          all_goals (first | refine wSkip 11 ?_ | refine wSkipU 11 ?_ | refine wFa 11 ?_ | (refine tr_guard (t := 18) rfl (fun hb => ?_) (fun hb => ?_) <;> (try simp only [decide_eq_true_eq, decide_eq_false_iff_not, Bool.not_eq_true, Bool.not_eq_false, beq_iff_eq, bne_iff_ne, ne_eq, Bool.not_eq_eq_eq_not, Bool.not_true, Bool.not_false, beq_eq_false_iff_ne, bne_eq_false_iff_eq] at hb) <;> first | refine wSkip 11 ?_ | refine wSkipU 11 ?_ | refine wFa 11 ?_))
          all_goals (first | refine wSkip 12 ?_ | refine wSkipU 12 ?_ | refine wLd 12 ?_ | (refine tr_guard (t := 18) rfl (fun hb => ?_) (fun hb => ?_) <;> (try simp only [decide_eq_true_eq, decide_eq_false_iff_not, Bool.not_eq_true, Bool.not_eq_false, beq_iff_eq, bne_iff_ne, ne_eq, Bool.not_eq_eq_eq_not, Bool.not_true, Bool.not_false, beq_eq_false_iff_ne, bne_eq_false_iff_eq] at hb) <;> first | refine wSkip 12 ?_ | refine wSkipU 12 ?_ | refine wLd 12 ?_))
          all_goals (first | refine wSkip 14 ?_ | refine wSkipU 14 ?_ | refine wFa 14 ?_ | (refine tr_guard (t := 18) rfl (fun hb => ?_) (fun hb => ?_) <;> (try simp only [decide_eq_true_eq, decide_eq_false_iff_not, Bool.not_eq_true, Bool.not_eq_false, beq_iff_eq, bne_iff_ne, ne_eq, Bool.not_eq_eq_eq_not, Bool.not_true, Bool.not_false, beq_eq_false_iff_ne, bne_eq_false_iff_eq] at hb) <;> first | refine wSkip 14 ?_ | refine wSkipU 14 ?_ | refine wFa 14 ?_))
          all_goals (first | refine wSkip 15 ?_ | refine wSkipU 15 ?_ | refine wLd 15 ?_ | (refine tr_guard (t := 18) rfl (fun hb => ?_) (fun hb => ?_) <;> (try simp only [decide_eq_true_eq, decide_eq_false_iff_not, Bool.not_eq_true, Bool.not_eq_false, beq_iff_eq, bne_iff_ne, ne_eq, Bool.not_eq_eq_eq_not, Bool.not_true, Bool.not_false, beq_eq_false_iff_ne, bne_eq_false_iff_eq] at hb) <;> first | refine wSkip 15 ?_ | refine wSkipU 15 ?_ | refine wLd 15 ?_))
          all_goals (first | refine wSkip 13 ?_ | refine wSkipU 13 ?_ | (refine rStep (i := 13) ?_; ((try refine qWant ?_); (first | (refine tl_is (.func 154) ?_; refine qC rfl rfl (order_spec _ y.t y.id y0 y3 hidp) ?_; rintro v ρ' L' hle ⟨rfl, rfl, rfl⟩ <;> (try simp only [List.cons_append, List.nil_append, List.append_eq])) | (refine tl_is (.func 154) ?_; refine qC rfl rfl (order_spec _ x.t x.id x0 x3 hidk) ?_; rintro v ρ' L' hle ⟨rfl, rfl, rfl⟩ <;> (try simp only [List.cons_append, List.nil_append, List.append_eq])) | (refine qEf ?_; try intro _)) <;> ((try simp only [List.cons_append, List.nil_append, List.append_eq]); refine tl_nil ?_; refine rNext ?_))))
          all_goals (first | refine wSkip 16 ?_ | refine wSkipU 16 ?_ | (refine rStep (i := 16) ?_; ((try refine qWant ?_); (first | (refine tl_is (.func 154) ?_; refine qC rfl rfl (order_spec _ y.t y.id y0 y3 hidp) ?_; rintro v ρ' L' hle ⟨rfl, rfl, rfl⟩ <;> (try simp only [List.cons_append, List.nil_append, List.append_eq])) | (refine tl_is (.func 154) ?_; refine qC rfl rfl (order_spec _ x.t x.id x0 x3 hidk) ?_; rintro v ρ' L' hle ⟨rfl, rfl, rfl⟩ <;> (try simp only [List.cons_append, List.nil_append, List.append_eq])) | (refine qEf ?_; try intro _)) <;> ((try simp only [List.cons_append, List.nil_append, List.append_eq]); refine tl_nil ?_; refine rNext ?_))))
          all_goals refine rFull ?_
          all_goals (first | refine wSkip 17 ?_ | refine wSkipU 17 ?_ | refine wCm 17 ?_ | (refine tr_guard (t := 18) rfl (fun hb => ?_) (fun hb => ?_) <;> (try simp only [decide_eq_true_eq, decide_eq_false_iff_not, Bool.not_eq_true, Bool.not_eq_false, beq_iff_eq, bne_iff_ne, ne_eq, Bool.not_eq_eq_eq_not, Bool.not_true, Bool.not_false, beq_eq_false_iff_ne, bne_eq_false_iff_eq] at hb) <;> first | refine wSkip 17 ?_ | refine wSkipU 17 ?_ | refine wCm 17 ?_))
          all_goals (first | refine wSkip 18 ?_ | refine wSkipU 18 ?_ | refine wPk 18 ?_ | (refine tr_guard (t := 15) rfl (fun hb => ?_) (fun hb => ?_) <;> (try simp only [decide_eq_true_eq, decide_eq_false_iff_not, Bool.not_eq_true, Bool.not_eq_false, beq_iff_eq, bne_iff_ne, ne_eq, Bool.not_eq_eq_eq_not, Bool.not_true, Bool.not_false, beq_eq_false_iff_ne, bne_eq_false_iff_eq] at hb) <;> first | refine wSkip 18 ?_ | refine wSkipU 18 ?_ | refine wPk 18 ?_))
          all_goals refine rPk 19 ?_
          all_goals refine rDone ?_
          all_goals (repeat' (first | (refine i_op ?_; first | (refine i_qq ?_; refine qQ ?_) | refine qEf ?_) | refine tl_nil ?_ | (refine i_tc ?_; refine qTc ?_) | (refine i_te ?_; refine qTe ?_) | intro _))
          all_goals refine te_round_g (k + 1) (⟨hlt, hs⟩) ev_le ev_le rfl tk inferInstance (by first | omega | (dsimp only; omega))
        · rw [decide_eq_false hcm] at hs
          rw [hfin hs, Bool.and_false]
          have hcm2 : ¬ (y.t * 65536 + y.id < x.t * 65536 + x.id) := fun h => hcm (hor.2 h)
          repeat' (first | (refine i_op ?_; first | (refine i_qq ?_; refine qQ ?_) | refine qEf ?_) | refine tl_nil ?_ | (refine i_tc ?_; refine qTc ?_) | (refine i_te ?_; refine qTe ?_) | intro _)
          refine tc_any (Stays _ _ _) stays_refl ?_
          all_goals refine rLd 0 ?_
          all_goals (refine rStep (i := 1) ?_; ((try refine qWant ?_); (first | (refine tl_is (.func 36) ?_; refine qC rfl rfl (rightRow_spec _ x) ?_; rintro v ρ' L' hle ⟨rfl, rfl, rfl⟩ <;> (try simp only [List.cons_append, List.nil_append, List.append_eq, hx])) | (refine qEf ?_; try intro _)) <;> ((try simp only [List.cons_append, List.nil_append, List.append_eq]); refine tl_nil ?_; refine rNext ?_)))
          all_goals refine rUn 2 ?_
          all_goals refine rMv 3 ?_
          all_goals (first | refine wSkip 4 ?_ | refine wSkipU 4 ?_ | refine wMv 4 ?_ | (refine tr_guard (t := 15) rfl (fun hb => ?_) (fun hb => ?_) <;> (try simp only [decide_eq_true_eq, decide_eq_false_iff_not, Bool.not_eq_true, Bool.not_eq_false, beq_iff_eq, bne_iff_ne, ne_eq, Bool.not_eq_eq_eq_not, Bool.not_true, Bool.not_false, beq_eq_false_iff_ne, bne_eq_false_iff_eq] at hb) <;> first | refine wSkip 4 ?_ | refine wSkipU 4 ?_ | refine wMv 4 ?_))
          all_goals (first | refine wSkip 5 ?_ | refine wSkipU 5 ?_ | refine wCm 5 ?_ | (refine tr_guard (t := 15) rfl (fun hb => ?_) (fun hb => ?_) <;> (try simp only [decide_eq_true_eq, decide_eq_false_iff_not, Bool.not_eq_true, Bool.not_eq_false, beq_iff_eq, bne_iff_ne, ne_eq, Bool.not_eq_eq_eq_not, Bool.not_true, Bool.not_false, beq_eq_false_iff_ne, bne_eq_false_iff_eq] at hb) <;> first | refine wSkip 5 ?_ | refine wSkipU 5 ?_ | refine wCm 5 ?_))
          all_goals (first | refine wSkip 6 ?_ | refine wSkipU 6 ?_ | refine wMv 6 ?_ | (refine tr_guard (t := 15) rfl (fun hb => ?_) (fun hb => ?_) <;> (try simp only [decide_eq_true_eq, decide_eq_false_iff_not, Bool.not_eq_true, Bool.not_eq_false, beq_iff_eq, bne_iff_ne, ne_eq, Bool.not_eq_eq_eq_not, Bool.not_true, Bool.not_false, beq_eq_false_iff_ne, bne_eq_false_iff_eq] at hb) <;> first | refine wSkip 6 ?_ | refine wSkipU 6 ?_ | refine wMv 6 ?_))
          all_goals (first | refine wSkip 7 ?_ | refine wSkipU 7 ?_ | refine wMv 7 ?_ | (refine tr_guard (t := 18) rfl (fun hb => ?_) (fun hb => ?_) <;> (try simp only [decide_eq_true_eq, decide_eq_false_iff_not, Bool.not_eq_true, Bool.not_eq_false, beq_iff_eq, bne_iff_ne, ne_eq, Bool.not_eq_eq_eq_not, Bool.not_true, Bool.not_false, beq_eq_false_iff_ne, bne_eq_false_iff_eq] at hb) <;> first | refine wSkip 7 ?_ | refine wSkipU 7 ?_ | refine wMv 7 ?_))
          all_goals (first | refine wSkip 8 ?_ | refine wSkipU 8 ?_ | refine wMv 8 ?_ | (refine tr_guard (t := 18) rfl (fun hb => ?_) (fun hb => ?_) <;> (try simp only [decide_eq_true_eq, decide_eq_false_iff_not, Bool.not_eq_true, Bool.not_eq_false, beq_iff_eq, bne_iff_ne, ne_eq, Bool.not_eq_eq_eq_not, Bool.not_true, Bool.not_false, beq_eq_false_iff_ne, bne_eq_false_iff_eq] at hb) <;> first | refine wSkip 8 ?_ | refine wSkipU 8 ?_ | refine wMv 8 ?_))
          all_goals (first | refine wSkip 9 ?_ | refine wSkipU 9 ?_ | refine wSb 9 ?_ | (refine tr_guard (t := 18) rfl (fun hb => ?_) (fun hb => ?_) <;> (try simp only [decide_eq_true_eq, decide_eq_false_iff_not, Bool.not_eq_true, Bool.not_eq_false, beq_iff_eq, bne_iff_ne, ne_eq, Bool.not_eq_eq_eq_not, Bool.not_true, Bool.not_false, beq_eq_false_iff_ne, bne_eq_false_iff_eq] at hb) <;> first | refine wSkip 9 ?_ | refine wSkipU 9 ?_ | refine wSb 9 ?_))
          all_goals (first | refine wSkip 10 ?_ | refine wSkipU 10 ?_ | refine wIa 10 ?_ | (refine tr_guard (t := 18) rfl (fun hb => ?_) (fun hb => ?_) <;> (try simp only [decide_eq_true_eq, decide_eq_false_iff_not, Bool.not_eq_true, Bool.not_eq_false, beq_iff_eq, bne_iff_ne, ne_eq, Bool.not_eq_eq_eq_not, Bool.not_true, Bool.not_false, beq_eq_false_iff_ne, bne_eq_false_iff_eq] at hb) <;> first | refine wSkip 10 ?_ | refine wSkipU 10 ?_ | refine wIa 10 ?_))
          all_goals (first | refine wSkip 11 ?_ | refine wSkipU 11 ?_ | refine wFa 11 ?_ | (refine tr_guard (t := 18) rfl (fun hb => ?_) (fun hb => ?_) <;> (try simp only [decide_eq_true_eq, decide_eq_false_iff_not, Bool.not_eq_true, Bool.not_eq_false, beq_iff_eq, bne_iff_ne, ne_eq, Bool.not_eq_eq_eq_not, Bool.not_true, Bool.not_false, beq_eq_false_iff_ne, bne_eq_false_iff_eq] at hb) <;> first | refine wSkip 11 ?_ | refine wSkipU 11 ?_ | refine wFa 11 ?_))
          all_goals (first | refine wSkip 12 ?_ | refine wSkipU 12 ?_ | refine wLd 12 ?_ | (refine tr_guard (t := 18) rfl (fun hb => ?_) (fun hb => ?_) <;> (try simp only [decide_eq_true_eq, decide_eq_false_iff_not, Bool.not_eq_true, Bool.not_eq_false, beq_iff_eq, bne_iff_ne, ne_eq, Bool.not_eq_eq_eq_not, Bool.not_true, Bool.not_false, beq_eq_false_iff_ne, bne_eq_false_iff_eq] at hb) <;> first | refine wSkip 12 ?_ | refine wSkipU 12 ?_ | refine wLd 12 ?_))
          all_goals (first | refine wSkip 14 ?_ | refine wSkipU 14 ?_ | refine wFa 14 ?_ | (refine tr_guard (t := 18) rfl (fun hb => ?_) (fun hb => ?_) <;> (try simp only [decide_eq_true_eq, decide_eq_false_iff_not, Bool.not_eq_true, Bool.not_eq_false, beq_iff_eq, bne_iff_ne, ne_eq, Bool.not_eq_eq_eq_not, Bool.not_true, Bool.not_false, beq_eq_false_iff_ne, bne_eq_false_iff_eq] at hb) <;> first | refine wSkip 14 ?_ | refine wSkipU 14 ?_ | refine wFa 14 ?_))
          all_goals (first | refine wSkip 15 ?_ | refine wSkipU 15 ?_ | refine wLd 15 ?_ | (refine tr_guard (t := 18) rfl (fun hb => ?_) (fun hb => ?_) <;> (try simp only [decide_eq_true_eq, decide_eq_false_iff_not, Bool.not_eq_true, Bool.not_eq_false, beq_iff_eq, bne_iff_ne, ne_eq, Bool.not_eq_eq_eq_not, Bool.not_true, Bool.not_false, beq_eq_false_iff_ne, bne_eq_false_iff_eq] at hb) <;> first | refine wSkip 15 ?_ | refine wSkipU 15 ?_ | refine wLd 15 ?_))
          all_goals (first | refine wSkip 13 ?_ | refine wSkipU 13 ?_ | (refine rStep (i := 13) ?_; ((try refine qWant ?_); (first | (refine tl_is (.func 154) ?_; refine qC rfl rfl (order_spec _ y.t y.id y0 y3 hidp) ?_; rintro v ρ' L' hle ⟨rfl, rfl, rfl⟩ <;> (try simp only [List.cons_append, List.nil_append, List.append_eq])) | (refine tl_is (.func 154) ?_; refine qC rfl rfl (order_spec _ x.t x.id x0 x3 hidk) ?_; rintro v ρ' L' hle ⟨rfl, rfl, rfl⟩ <;> (try simp only [List.cons_append, List.nil_append, List.append_eq])) | (refine qEf ?_; try intro _)) <;> ((try simp only [List.cons_append, List.nil_append, List.append_eq]); refine tl_nil ?_; refine rNext ?_))))
          all_goals (first | refine wSkip 16 ?_ | refine wSkipU 16 ?_ | (refine rStep (i := 16) ?_; ((try refine qWant ?_); (first | (refine tl_is (.func 154) ?_; refine qC rfl rfl (order_spec _ y.t y.id y0 y3 hidp) ?_; rintro v ρ' L' hle ⟨rfl, rfl, rfl⟩ <;> (try simp only [List.cons_append, List.nil_append, List.append_eq])) | (refine tl_is (.func 154) ?_; refine qC rfl rfl (order_spec _ x.t x.id x0 x3 hidk) ?_; rintro v ρ' L' hle ⟨rfl, rfl, rfl⟩ <;> (try simp only [List.cons_append, List.nil_append, List.append_eq])) | (refine qEf ?_; try intro _)) <;> ((try simp only [List.cons_append, List.nil_append, List.append_eq]); refine tl_nil ?_; refine rNext ?_))))
          all_goals refine rFull ?_
          all_goals (first | refine wSkip 17 ?_ | refine wSkipU 17 ?_ | refine wCm 17 ?_ | (refine tr_guard (t := 18) rfl (fun hb => ?_) (fun hb => ?_) <;> (try simp only [decide_eq_true_eq, decide_eq_false_iff_not, Bool.not_eq_true, Bool.not_eq_false, beq_iff_eq, bne_iff_ne, ne_eq, Bool.not_eq_eq_eq_not, Bool.not_true, Bool.not_false, beq_eq_false_iff_ne, bne_eq_false_iff_eq] at hb) <;> first | refine wSkip 17 ?_ | refine wSkipU 17 ?_ | refine wCm 17 ?_))
          all_goals (first | refine wSkip 18 ?_ | refine wSkipU 18 ?_ | refine wPk 18 ?_ | (refine tr_guard (t := 15) rfl (fun hb => ?_) (fun hb => ?_) <;> (try simp only [decide_eq_true_eq, decide_eq_false_iff_not, Bool.not_eq_true, Bool.not_eq_false, beq_iff_eq, bne_iff_ne, ne_eq, Bool.not_eq_eq_eq_not, Bool.not_true, Bool.not_false, beq_eq_false_iff_ne, bne_eq_false_iff_eq] at hb) <;> first | refine wSkip 18 ?_ | refine wSkipU 18 ?_ | refine wPk 18 ?_))
          all_goals refine rPk 19 ?_
          all_goals refine rDone ?_
          all_goals (repeat' (first | (refine i_op ?_; first | (refine i_qq ?_; refine qQ ?_) | refine qEf ?_) | refine tl_nil ?_ | (refine i_tc ?_; refine qTc ?_) | (refine i_te ?_; refine qTe ?_) | intro _))
          all_goals exact qE ⟨rfl, rfl, rfl⟩
  · have hk2 : k = n := by omega
    subst hk2
    rw [hok, Bool.and_true]
    by_cases h4 : k ≤ 4
    · rw [decide_eq_true h4]
      repeat' (first | (refine i_op ?_; first | (refine i_qq ?_; refine qQ ?_) | refine qEf ?_) | refine tl_nil ?_ | (refine i_tc ?_; refine qTc ?_) | (refine i_te ?_; refine qTe ?_) | intro _)
      exact qE ⟨rfl, rfl, rfl⟩
    · rw [decide_eq_false h4]
      repeat' (first | (refine i_op ?_; first | (refine i_qq ?_; refine qQ ?_) | refine qEf ?_) | refine tl_nil ?_ | (refine i_tc ?_; refine qTc ?_) | (refine i_te ?_; refine qTe ?_) | intro _)
      exact qE ⟨rfl, rfl, rfl⟩
end Go.Proofs.E

namespace Go.Proofs.E
open Go
set_option linter.unusedVariables false
set_option linter.unusedSimpArgs false
set_option linter.unusedSectionVars false
set_option maxRecDepth 4000
set_option maxHeartbeats 1000000
attribute [local irreducible] Yl TL TC TE Spec YSpec R1 Hp.le EnvLe TS TR YS Stays
theorem psTo_mem {l : List Kid} {k : Nat} {p : Int} : p ∈ psTo l k ↔ ∃ x ∈ l.take k, x.page = p := by simp only [psTo, List.mem_reverse, List.mem_map]
theorem kidsR_spec (ρ : Hp) (a : Option Addr) (n c : Nat) (l : List Kid) (h : AIn ρ 3 kidV a n l) (hn : n ≤ 1000000) (hnc : n ≤ c) (hid : ∀ r ∈ l, r.id < 65536) :
    Spec Try.prog 87 [.slice a n c] ρ [] (fun v ρ' L' => v = .bool (decide (1 < n) && kidsOk l) ∧ ρ' = ρ ∧ L' = []) := by
  have hl := h.len
  unfold kidsOk
  rw [risesB_split, hl]
  refine spec_enter Try.func87 rfl rfl rfl fun u R => ?_
  simp only [argsE, List.cons_append, List.nil_append]
  generalize hrt : (fun (i : Nat) (k : Kid) => kidOk i (psTo l i) k) = rt
  repeat' (first | (refine i_op ?_; first | (refine i_qq ?_; refine qQ ?_) | refine qEf ?_) | refine tl_nil ?_ | (refine i_tc ?_; refine qTc ?_) | (refine i_te ?_; refine qTe ?_) | intro _)
  refine tc_loop_g [(0, _), (2, _), (7, _), (8, _)] (fun (ζ : (Nat)) => [(9, .int .i64 ζ)]) (fun (ζ : (Nat)) => ρ) (fun (ζ : (Nat)) => []) (fun (ζ : (Nat)) => ζ ≤ n ∧ risesB n rt ltK l ζ = true) (fun (ζ : (Nat)) => n - ζ) (0) (⟨Nat.zero_le _, by rw [risesB, hl]; exact decide_eq_true (Nat.le_refl _)⟩) ev_le ev_le rfl tk ?_
  rintro k hI
  try simp only [List.cons_append, List.nil_append, List.append_assoc, List.append_eq] at hI ⊢
  try dsimp only at hI ⊢
  obtain ⟨hk, hok⟩ := hI
  by_cases hlt : k < n
  · have hsub := h.take (hi' := k) (by omega)
    obtain ⟨b, off, C, T, fr, rfl, hb, hfit, hc⟩ := h.get (show k < l.length by omega)
    have hs := risesB_succ (most := n) (right := rt) (lt := ltK) (show k < l.length by omega)
    rw [hok, Bool.true_and] at hs
    have hrk : rt k (l[k]'(by omega)) = kidOk k (psTo l k) (l[k]'(by omega)) := by rw [← hrt]
    rw [hrk] at hs
    have hfin := fun (e : risesB n rt ltK l (k + 1) = false) => risesB_false' e (show k + 1 ≤ n by omega)
    have hmem : l[k]'(by omega) ∈ l := List.getElem_mem _
    have hidk := hid _ hmem
    have hx : ∀ P : Prop, (kidOk k (psTo l k) (l[k]'(by omega)) = true → P) → ¬ P → (decide (1 < n) && (decide (n ≤ 4) && risesB n rt ltK l n)) = false := fun P h1 h2 => by
      have : kidOk k (psTo l k) (l[k]'(by omega)) = false := by
        cases e : kidOk k (psTo l k) (l[k]'(by omega))
        · rfl
        · exact absurd (h1 e) h2
      rw [this, Bool.false_and] at hs
      rw [hfin hs]; simp
    have hkx : kidOk k (psTo l k) (l[k]'(by omega)) = true → (l[k]'(by omega)).page ∉ psTo l k ∧ 0 < (l[k]'(by omega)).page ∧ (l[k]'(by omega)).page < 64 ∧ (0 ≤ (l[k]'(by omega)).t ∧ (l[k]'(by omega)).t < 3) ∧ (0 < k ∨ ((l[k]'(by omega)).t = 0 ∧ (l[k]'(by omega)).id = 0)) := fun e => of_decide_eq_true e
    generalize hX : l[k]'(by omega) = x at *
    by_cases p0 : 0 < x.page
    · by_cases p6 : x.page < 64
      · by_cases ht : 0 ≤ x.t ∧ x.t < 3
        · have hd : decide (0 ≤ x.t ∧ x.t < 3) = true := decide_eq_true ht
          by_cases hk0 : k = 0
          · by_cases hz : x.t = 0 ∧ x.id = 0
            · have hkk : ((x.t == 0) && (((x.id : Int) == 0) && true)) = true := by simp [hz.1, hz.2]
              repeat' (first | (refine i_op ?_; first | (refine i_qq ?_; refine qQ ?_) | refine qEf ?_) | refine tl_nil ?_ | (refine i_tc ?_; refine qTc ?_) | (refine i_te ?_; refine qTe ?_) | intro _)
              rename_i b4
              refine tc_any (Stays _ _ _) stays_refl ?_
              all_goals refine rFa 0 ?_
              all_goals refine rLd 1 ?_
              all_goals refine rCm 2 ?_
              all_goals refine rMv 3 ?_
              all_goals (first | refine wSkip 4 ?_ | refine wSkipU 4 ?_ | refine wFa 4 ?_ | (refine tr_guard (t := 17) rfl (fun hb => ?_) (fun hb => ?_) <;> (try simp only [decide_eq_true_eq, decide_eq_false_iff_not, Bool.not_eq_true, Bool.not_eq_false, beq_iff_eq, bne_iff_ne, ne_eq, Bool.not_eq_eq_eq_not, Bool.not_true, Bool.not_false, beq_eq_false_iff_ne, bne_eq_false_iff_eq] at hb) <;> first | refine wSkip 4 ?_ | refine wSkipU 4 ?_ | refine wFa 4 ?_))
              all_goals (first | refine wSkip 5 ?_ | refine wSkipU 5 ?_ | refine wLd 5 ?_ | (refine tr_guard (t := 17) rfl (fun hb => ?_) (fun hb => ?_) <;> (try simp only [decide_eq_true_eq, decide_eq_false_iff_not, Bool.not_eq_true, Bool.not_eq_false, beq_iff_eq, bne_iff_ne, ne_eq, Bool.not_eq_eq_eq_not, Bool.not_true, Bool.not_false, beq_eq_false_iff_ne, bne_eq_false_iff_eq] at hb) <;> first | refine wSkip 5 ?_ | refine wSkipU 5 ?_ | refine wLd 5 ?_))
              all_goals (first | refine wSkip 6 ?_ | refine wSkipU 6 ?_ | refine wCm 6 ?_ | (refine tr_guard (t := 17) rfl (fun hb => ?_) (fun hb => ?_) <;> (try simp only [decide_eq_true_eq, decide_eq_false_iff_not, Bool.not_eq_true, Bool.not_eq_false, beq_iff_eq, bne_iff_ne, ne_eq, Bool.not_eq_eq_eq_not, Bool.not_true, Bool.not_false, beq_eq_false_iff_ne, bne_eq_false_iff_eq] at hb) <;> first | refine wSkip 6 ?_ | refine wSkipU 6 ?_ | refine wCm 6 ?_))
              all_goals refine rPk 7 ?_
              all_goals refine rMv 8 ?_
              all_goals (first | refine wSkip 9 ?_ | refine wSkipU 9 ?_ | refine wFa 9 ?_ | (refine tr_guard (t := 22) rfl (fun hb => ?_) (fun hb => ?_) <;> (try simp only [decide_eq_true_eq, decide_eq_false_iff_not, Bool.not_eq_true, Bool.not_eq_false, beq_iff_eq, bne_iff_ne, ne_eq, Bool.not_eq_eq_eq_not, Bool.not_true, Bool.not_false, beq_eq_false_iff_ne, bne_eq_false_iff_eq] at hb) <;> first | refine wSkip 9 ?_ | refine wSkipU 9 ?_ | refine wFa 9 ?_))
              all_goals (first | refine wSkip 10 ?_ | refine wSkipU 10 ?_ | refine wFa 10 ?_ | (refine tr_guard (t := 22) rfl (fun hb => ?_) (fun hb => ?_) <;> (try simp only [decide_eq_true_eq, decide_eq_false_iff_not, Bool.not_eq_true, Bool.not_eq_false, beq_iff_eq, bne_iff_ne, ne_eq, Bool.not_eq_eq_eq_not, Bool.not_true, Bool.not_false, beq_eq_false_iff_ne, bne_eq_false_iff_eq] at hb) <;> first | refine wSkip 10 ?_ | refine wSkipU 10 ?_ | refine wFa 10 ?_))
              all_goals (first | refine wSkip 11 ?_ | refine wSkipU 11 ?_ | refine wLd 11 ?_ | (refine tr_guard (t := 22) rfl (fun hb => ?_) (fun hb => ?_) <;> (try simp only [decide_eq_true_eq, decide_eq_false_iff_not, Bool.not_eq_true, Bool.not_eq_false, beq_iff_eq, bne_iff_ne, ne_eq, Bool.not_eq_eq_eq_not, Bool.not_true, Bool.not_false, beq_eq_false_iff_ne, bne_eq_false_iff_eq] at hb) <;> first | refine wSkip 11 ?_ | refine wSkipU 11 ?_ | refine wLd 11 ?_))
              all_goals (first | refine wSkip 12 ?_ | refine wSkipU 12 ?_ | (refine rStep (i := 12) ?_; ((try refine qWant ?_); (first | (refine tl_is (.func 93) ?_; refine qC rfl rfl (tableR_spec _ _) ?_; rintro v ρ' L' hle ⟨rfl, rfl, rfl⟩ <;> (try simp only [List.cons_append, List.nil_append, List.append_eq, hd])) | (refine qEf ?_; try intro _)) <;> ((try simp only [List.cons_append, List.nil_append, List.append_eq]); refine tl_nil ?_; refine rNext ?_))))
              all_goals (first | refine wSkip 13 ?_ | refine wSkipU 13 ?_ | refine wUn 13 ?_ | (refine tr_guard (t := 22) rfl (fun hb => ?_) (fun hb => ?_) <;> (try simp only [decide_eq_true_eq, decide_eq_false_iff_not, Bool.not_eq_true, Bool.not_eq_false, beq_iff_eq, bne_iff_ne, ne_eq, Bool.not_eq_eq_eq_not, Bool.not_true, Bool.not_false, beq_eq_false_iff_ne, bne_eq_false_iff_eq] at hb) <;> first | refine wSkip 13 ?_ | refine wSkipU 13 ?_ | refine wUn 13 ?_))
              all_goals refine rPk 14 ?_
              all_goals refine rMv 15 ?_
              all_goals (first | refine wSkip 16 ?_ | refine wSkipU 16 ?_ | refine wMv 16 ?_ | (refine tr_guard (t := 29) rfl (fun hb => ?_) (fun hb => ?_) <;> (try simp only [decide_eq_true_eq, decide_eq_false_iff_not, Bool.not_eq_true, Bool.not_eq_false, beq_iff_eq, bne_iff_ne, ne_eq, Bool.not_eq_eq_eq_not, Bool.not_true, Bool.not_false, beq_eq_false_iff_ne, bne_eq_false_iff_eq] at hb) <;> first | refine wSkip 16 ?_ | refine wSkipU 16 ?_ | refine wMv 16 ?_))
              all_goals (first | refine wSkip 17 ?_ | refine wSkipU 17 ?_ | refine wCm 17 ?_ | (refine tr_guard (t := 29) rfl (fun hb => ?_) (fun hb => ?_) <;> (try simp only [decide_eq_true_eq, decide_eq_false_iff_not, Bool.not_eq_true, Bool.not_eq_false, beq_iff_eq, bne_iff_ne, ne_eq, Bool.not_eq_eq_eq_not, Bool.not_true, Bool.not_false, beq_eq_false_iff_ne, bne_eq_false_iff_eq] at hb) <;> first | refine wSkip 17 ?_ | refine wSkipU 17 ?_ | refine wCm 17 ?_))
              all_goals (first | refine wSkip 18 ?_ | refine wSkipU 18 ?_ | refine wMv 18 ?_ | (refine tr_guard (t := 29) rfl (fun hb => ?_) (fun hb => ?_) <;> (try simp only [decide_eq_true_eq, decide_eq_false_iff_not, Bool.not_eq_true, Bool.not_eq_false, beq_iff_eq, bne_iff_ne, ne_eq, Bool.not_eq_eq_eq_not, Bool.not_true, Bool.not_false, beq_eq_false_iff_ne, bne_eq_false_iff_eq] at hb) <;> first | refine wSkip 18 ?_ | refine wSkipU 18 ?_ | refine wMv 18 ?_))
              all_goals (first | refine wSkip 19 ?_ | refine wSkipU 19 ?_ | refine wFa 19 ?_ | (refine tr_guard (t := 32) rfl (fun hb => ?_) (fun hb => ?_) <;> (try simp only [decide_eq_true_eq, decide_eq_false_iff_not, Bool.not_eq_true, Bool.not_eq_false, beq_iff_eq, bne_iff_ne, ne_eq, Bool.not_eq_eq_eq_not, Bool.not_true, Bool.not_false, beq_eq_false_iff_ne, bne_eq_false_iff_eq] at hb) <;> first | refine wSkip 19 ?_ | refine wSkipU 19 ?_ | refine wFa 19 ?_))
              all_goals (first | refine wSkip 20 ?_ | refine wSkipU 20 ?_ | refine wLd 20 ?_ | (refine tr_guard (t := 32) rfl (fun hb => ?_) (fun hb => ?_) <;> (try simp only [decide_eq_true_eq, decide_eq_false_iff_not, Bool.not_eq_true, Bool.not_eq_false, beq_iff_eq, bne_iff_ne, ne_eq, Bool.not_eq_eq_eq_not, Bool.not_true, Bool.not_false, beq_eq_false_iff_ne, bne_eq_false_iff_eq] at hb) <;> first | refine wSkip 20 ?_ | refine wSkipU 20 ?_ | refine wLd 20 ?_))
              all_goals (first | refine wSkip 21 ?_ | refine wSkipU 21 ?_ | refine wBu 21 ?_ | (refine tr_guard (t := 32) rfl (fun hb => ?_) (fun hb => ?_) <;> (try simp only [decide_eq_true_eq, decide_eq_false_iff_not, Bool.not_eq_true, Bool.not_eq_false, beq_iff_eq, bne_iff_ne, ne_eq, Bool.not_eq_eq_eq_not, Bool.not_true, Bool.not_false, beq_eq_false_iff_ne, bne_eq_false_iff_eq] at hb) <;> first | refine wSkip 21 ?_ | refine wSkipU 21 ?_ | refine wBu 21 ?_))
              all_goals (first | refine wSkip 22 ?_ | refine wSkipU 22 ?_ | refine wCm 22 ?_ | (refine tr_guard (t := 32) rfl (fun hb => ?_) (fun hb => ?_) <;> (try simp only [decide_eq_true_eq, decide_eq_false_iff_not, Bool.not_eq_true, Bool.not_eq_false, beq_iff_eq, bne_iff_ne, ne_eq, Bool.not_eq_eq_eq_not, Bool.not_true, Bool.not_false, beq_eq_false_iff_ne, bne_eq_false_iff_eq] at hb) <;> first | refine wSkip 22 ?_ | refine wSkipU 22 ?_ | refine wCm 22 ?_))
              all_goals (first | refine wSkip 23 ?_ | refine wSkipU 23 ?_ | refine wPk 23 ?_ | (refine tr_guard (t := 29) rfl (fun hb => ?_) (fun hb => ?_) <;> (try simp only [decide_eq_true_eq, decide_eq_false_iff_not, Bool.not_eq_true, Bool.not_eq_false, beq_iff_eq, bne_iff_ne, ne_eq, Bool.not_eq_eq_eq_not, Bool.not_true, Bool.not_false, beq_eq_false_iff_ne, bne_eq_false_iff_eq] at hb) <;> first | refine wSkip 23 ?_ | refine wSkipU 23 ?_ | refine wPk 23 ?_))
              all_goals refine rPk 24 ?_
              all_goals refine rMv 25 ?_
              all_goals (first | refine wSkip 26 ?_ | refine wSkipU 26 ?_ | refine wMv 26 ?_ | (refine tr_guard (t := 39) rfl (fun hb => ?_) (fun hb => ?_) <;> (try simp only [decide_eq_true_eq, decide_eq_false_iff_not, Bool.not_eq_true, Bool.not_eq_false, beq_iff_eq, bne_iff_ne, ne_eq, Bool.not_eq_eq_eq_not, Bool.not_true, Bool.not_false, beq_eq_false_iff_ne, bne_eq_false_iff_eq] at hb) <;> first | refine wSkip 26 ?_ | refine wSkipU 26 ?_ | refine wMv 26 ?_))
              all_goals (first | refine wSkip 27 ?_ | refine wSkipU 27 ?_ | refine wCm 27 ?_ | (refine tr_guard (t := 39) rfl (fun hb => ?_) (fun hb => ?_) <;> (try simp only [decide_eq_true_eq, decide_eq_false_iff_not, Bool.not_eq_true, Bool.not_eq_false, beq_iff_eq, bne_iff_ne, ne_eq, Bool.not_eq_eq_eq_not, Bool.not_true, Bool.not_false, beq_eq_false_iff_ne, bne_eq_false_iff_eq] at hb) <;> first | refine wSkip 27 ?_ | refine wSkipU 27 ?_ | refine wCm 27 ?_))
              all_goals (first | refine wSkip 28 ?_ | refine wSkipU 28 ?_ | refine wMv 28 ?_ | (refine tr_guard (t := 39) rfl (fun hb => ?_) (fun hb => ?_) <;> (try simp only [decide_eq_true_eq, decide_eq_false_iff_not, Bool.not_eq_true, Bool.not_eq_false, beq_iff_eq, bne_iff_ne, ne_eq, Bool.not_eq_eq_eq_not, Bool.not_true, Bool.not_false, beq_eq_false_iff_ne, bne_eq_false_iff_eq] at hb) <;> first | refine wSkip 28 ?_ | refine wSkipU 28 ?_ | refine wMv 28 ?_))
              all_goals (first | refine wSkip 29 ?_ | refine wSkipU 29 ?_ | refine wMv 29 ?_ | (refine tr_guard (t := 42) rfl (fun hb => ?_) (fun hb => ?_) <;> (try simp only [decide_eq_true_eq, decide_eq_false_iff_not, Bool.not_eq_true, Bool.not_eq_false, beq_iff_eq, bne_iff_ne, ne_eq, Bool.not_eq_eq_eq_not, Bool.not_true, Bool.not_false, beq_eq_false_iff_ne, bne_eq_false_iff_eq] at hb) <;> first | refine wSkip 29 ?_ | refine wSkipU 29 ?_ | refine wMv 29 ?_))
              all_goals (first | refine wSkip 30 ?_ | refine wSkipU 30 ?_ | refine wMv 30 ?_ | (refine tr_guard (t := 42) rfl (fun hb => ?_) (fun hb => ?_) <;> (try simp only [decide_eq_true_eq, decide_eq_false_iff_not, Bool.not_eq_true, Bool.not_eq_false, beq_iff_eq, bne_iff_ne, ne_eq, Bool.not_eq_eq_eq_not, Bool.not_true, Bool.not_false, beq_eq_false_iff_ne, bne_eq_false_iff_eq] at hb) <;> first | refine wSkip 30 ?_ | refine wSkipU 30 ?_ | refine wMv 30 ?_))
              all_goals (first | refine wSkip 31 ?_ | refine wSkipU 31 ?_ | refine wSb 31 ?_ | (refine tr_guard (t := 42) rfl (fun hb => ?_) (fun hb => ?_) <;> (try simp only [decide_eq_true_eq, decide_eq_false_iff_not, Bool.not_eq_true, Bool.not_eq_false, beq_iff_eq, bne_iff_ne, ne_eq, Bool.not_eq_eq_eq_not, Bool.not_true, Bool.not_false, beq_eq_false_iff_ne, bne_eq_false_iff_eq] at hb) <;> first | refine wSkip 31 ?_ | refine wSkipU 31 ?_ | refine wSb 31 ?_))
              all_goals (first | refine wSkip 32 ?_ | refine wSkipU 32 ?_ | refine wIa 32 ?_ | (refine tr_guard (t := 42) rfl (fun hb => ?_) (fun hb => ?_) <;> (try simp only [decide_eq_true_eq, decide_eq_false_iff_not, Bool.not_eq_true, Bool.not_eq_false, beq_iff_eq, bne_iff_ne, ne_eq, Bool.not_eq_eq_eq_not, Bool.not_true, Bool.not_false, beq_eq_false_iff_ne, bne_eq_false_iff_eq] at hb) <;> first | refine wSkip 32 ?_ | refine wSkipU 32 ?_ | refine wIa 32 ?_))
              all_goals (first | refine wSkip 33 ?_ | refine wSkipU 33 ?_ | refine wFa 33 ?_ | (refine tr_guard (t := 42) rfl (fun hb => ?_) (fun hb => ?_) <;> (try simp only [decide_eq_true_eq, decide_eq_false_iff_not, Bool.not_eq_true, Bool.not_eq_false, beq_iff_eq, bne_iff_ne, ne_eq, Bool.not_eq_eq_eq_not, Bool.not_true, Bool.not_false, beq_eq_false_iff_ne, bne_eq_false_iff_eq] at hb) <;> first | refine wSkip 33 ?_ | refine wSkipU 33 ?_ | refine wFa 33 ?_))
              all_goals (first | refine wSkip 34 ?_ | refine wSkipU 34 ?_ | refine wLd 34 ?_ | (refine tr_guard (t := 42) rfl (fun hb => ?_) (fun hb => ?_) <;> (try simp only [decide_eq_true_eq, decide_eq_false_iff_not, Bool.not_eq_true, Bool.not_eq_false, beq_iff_eq, bne_iff_ne, ne_eq, Bool.not_eq_eq_eq_not, Bool.not_true, Bool.not_false, beq_eq_false_iff_ne, bne_eq_false_iff_eq] at hb) <;> first | refine wSkip 34 ?_ | refine wSkipU 34 ?_ | refine wLd 34 ?_))
              all_goals (first | refine wSkip 36 ?_ | refine wSkipU 36 ?_ | refine wFa 36 ?_ | (refine tr_guard (t := 42) rfl (fun hb => ?_) (fun hb => ?_) <;> (try simp only [decide_eq_true_eq, decide_eq_false_iff_not, Bool.not_eq_true, Bool.not_eq_false, beq_iff_eq, bne_iff_ne, ne_eq, Bool.not_eq_eq_eq_not, Bool.not_true, Bool.not_false, beq_eq_false_iff_ne, bne_eq_false_iff_eq] at hb) <;> first | refine wSkip 36 ?_ | refine wSkipU 36 ?_ | refine wFa 36 ?_))
              all_goals (first | refine wSkip 37 ?_ | refine wSkipU 37 ?_ | refine wLd 37 ?_ | (refine tr_guard (t := 42) rfl (fun hb => ?_) (fun hb => ?_) <;> (try simp only [decide_eq_true_eq, decide_eq_false_iff_not, Bool.not_eq_true, Bool.not_eq_false, beq_iff_eq, bne_iff_ne, ne_eq, Bool.not_eq_eq_eq_not, Bool.not_true, Bool.not_false, beq_eq_false_iff_ne, bne_eq_false_iff_eq] at hb) <;> first | refine wSkip 37 ?_ | refine wSkipU 37 ?_ | refine wLd 37 ?_))
              all_goals (first | refine wSkip 35 ?_ | refine wSkipU 35 ?_ | (refine rStep (i := 35) ?_; ((try refine qWant ?_); (first | (refine qEf ?_; try intro _)) <;> ((try simp only [List.cons_append, List.nil_append, List.append_eq]); refine tl_nil ?_; refine rNext ?_))))
              all_goals (first | refine wSkip 38 ?_ | refine wSkipU 38 ?_ | (refine rStep (i := 38) ?_; ((try refine qWant ?_); (first | (refine qEf ?_; try intro _)) <;> ((try simp only [List.cons_append, List.nil_append, List.append_eq]); refine tl_nil ?_; refine rNext ?_))))
              all_goals refine rFull ?_
              all_goals (first | refine wSkip 39 ?_ | refine wSkipU 39 ?_ | refine wCm 39 ?_ | (refine tr_guard (t := 42) rfl (fun hb => ?_) (fun hb => ?_) <;> (try simp only [decide_eq_true_eq, decide_eq_false_iff_not, Bool.not_eq_true, Bool.not_eq_false, beq_iff_eq, bne_iff_ne, ne_eq, Bool.not_eq_eq_eq_not, Bool.not_true, Bool.not_false, beq_eq_false_iff_ne, bne_eq_false_iff_eq] at hb) <;> first | refine wSkip 39 ?_ | refine wSkipU 39 ?_ | refine wCm 39 ?_))
              all_goals (first | refine wSkip 40 ?_ | refine wSkipU 40 ?_ | refine wPk 40 ?_ | (refine tr_guard (t := 39) rfl (fun hb => ?_) (fun hb => ?_) <;> (try simp only [decide_eq_true_eq, decide_eq_false_iff_not, Bool.not_eq_true, Bool.not_eq_false, beq_iff_eq, bne_iff_ne, ne_eq, Bool.not_eq_eq_eq_not, Bool.not_true, Bool.not_false, beq_eq_false_iff_ne, bne_eq_false_iff_eq] at hb) <;> first | refine wSkip 40 ?_ | refine wSkipU 40 ?_ | refine wPk 40 ?_))
              all_goals refine rPk 41 ?_
              all_goals refine rDone ?_
              repeat' (first | (refine i_op ?_; first | (refine i_qq ?_; refine qQ ?_) | refine qEf ?_) | refine tl_nil ?_ | (refine i_tc ?_; refine qTc ?_) | (refine i_te ?_; refine qTe ?_) | intro _)
              simp only [Int.toNat_natCast]
              refine tc_loop_g [(0, _), (2, _), (4, _), (7, _), (8, _), (9, _), (58, _), (59, _)] (fun (ζ : (Nat)) => [(60, .int .i64 ζ)]) (fun (ζ : (Nat)) => ρ') (fun (ζ : (Nat)) => [[(b4, .cells ⟨kidV x⟩ 134 (0, 0))]]) (fun (ζ : (Nat)) => ζ ≤ k ∧ ∀ y ∈ l.take ζ, y.page ≠ x.page) (fun (ζ : (Nat)) => k - ζ) (0) (⟨Nat.zero_le _, by simp⟩) ev_le ev_le rfl tk ?_
              rintro j hI
              try simp only [List.cons_append, List.nil_append, List.append_assoc, List.append_eq] at hI ⊢
              try dsimp only at hI ⊢
              obtain ⟨hj, hjo⟩ := hI
              by_cases hjk : j < k
              · exact absurd hjk (by omega)
              · have hj2 : j = k := by omega
                subst hj2
                have hke : kidOk j (psTo l j) x = true := decide_eq_true ⟨fun e => by obtain ⟨y, hy, he⟩ := psTo_mem.1 e; exact hjo y hy he, p0, p6, ht, .inr hz⟩
                rw [hke, Bool.true_and] at hs
                have hs' : risesB n rt ltK l (j + 1) = true := by rw [hs]; simp [hk0]
                repeat' (first | (refine i_op ?_; first | (refine i_qq ?_; refine qQ ?_) | refine qEf ?_) | refine tl_nil ?_ | (refine i_tc ?_; refine qTc ?_) | (refine i_te ?_; refine qTe ?_) | intro _)
                refine te_round_g (j + 1) (⟨hlt, hs'⟩) ev_le ev_le rfl tk inferInstance (by first | omega | (dsimp only; omega))
            · have hkk : ((x.t == 0) && (((x.id : Int) == 0) && true)) = false := by
                simp; intro h; exact fun h' => hz ⟨h, by omega⟩
              rw [hx (0 < k ∨ (x.t = 0 ∧ x.id = 0)) (fun e => (hkx e).2.2.2.2) (fun e => e.elim (by omega) hz)]
              repeat' (first | (refine i_op ?_; first | (refine i_qq ?_; refine qQ ?_) | refine qEf ?_) | refine tl_nil ?_ | (refine i_tc ?_; refine qTc ?_) | (refine i_te ?_; refine qTe ?_) | intro _)
              refine tc_any (Stays _ _ _) stays_refl ?_
              all_goals refine rFa 0 ?_
              all_goals refine rLd 1 ?_
              all_goals refine rCm 2 ?_
              all_goals refine rMv 3 ?_
              all_goals (first | refine wSkip 4 ?_ | refine wSkipU 4 ?_ | refine wFa 4 ?_ | (refine tr_guard (t := 17) rfl (fun hb => ?_) (fun hb => ?_) <;> (try simp only [decide_eq_true_eq, decide_eq_false_iff_not, Bool.not_eq_true, Bool.not_eq_false, beq_iff_eq, bne_iff_ne, ne_eq, Bool.not_eq_eq_eq_not, Bool.not_true, Bool.not_false, beq_eq_false_iff_ne, bne_eq_false_iff_eq] at hb) <;> first | refine wSkip 4 ?_ | refine wSkipU 4 ?_ | refine wFa 4 ?_))
              all_goals (first | refine wSkip 5 ?_ | refine wSkipU 5 ?_ | refine wLd 5 ?_ | (refine tr_guard (t := 17) rfl (fun hb => ?_) (fun hb => ?_) <;> (try simp only [decide_eq_true_eq, decide_eq_false_iff_not, Bool.not_eq_true, Bool.not_eq_false, beq_iff_eq, bne_iff_ne, ne_eq, Bool.not_eq_eq_eq_not, Bool.not_true, Bool.not_false, beq_eq_false_iff_ne, bne_eq_false_iff_eq] at hb) <;> first | refine wSkip 5 ?_ | refine wSkipU 5 ?_ | refine wLd 5 ?_))
              all_goals (first | refine wSkip 6 ?_ | refine wSkipU 6 ?_ | refine wCm 6 ?_ | (refine tr_guard (t := 17) rfl (fun hb => ?_) (fun hb => ?_) <;> (try simp only [decide_eq_true_eq, decide_eq_false_iff_not, Bool.not_eq_true, Bool.not_eq_false, beq_iff_eq, bne_iff_ne, ne_eq, Bool.not_eq_eq_eq_not, Bool.not_true, Bool.not_false, beq_eq_false_iff_ne, bne_eq_false_iff_eq] at hb) <;> first | refine wSkip 6 ?_ | refine wSkipU 6 ?_ | refine wCm 6 ?_))
              all_goals refine rPk 7 ?_
              all_goals refine rMv 8 ?_
              all_goals (first | refine wSkip 9 ?_ | refine wSkipU 9 ?_ | refine wFa 9 ?_ | (refine tr_guard (t := 22) rfl (fun hb => ?_) (fun hb => ?_) <;> (try simp only [decide_eq_true_eq, decide_eq_false_iff_not, Bool.not_eq_true, Bool.not_eq_false, beq_iff_eq, bne_iff_ne, ne_eq, Bool.not_eq_eq_eq_not, Bool.not_true, Bool.not_false, beq_eq_false_iff_ne, bne_eq_false_iff_eq] at hb) <;> first | refine wSkip 9 ?_ | refine wSkipU 9 ?_ | refine wFa 9 ?_))
              all_goals (first | refine wSkip 10 ?_ | refine wSkipU 10 ?_ | refine wFa 10 ?_ | (refine tr_guard (t := 22) rfl (fun hb => ?_) (fun hb => ?_) <;> (try simp only [decide_eq_true_eq, decide_eq_false_iff_not, Bool.not_eq_true, Bool.not_eq_false, beq_iff_eq, bne_iff_ne, ne_eq, Bool.not_eq_eq_eq_not, Bool.not_true, Bool.not_false, beq_eq_false_iff_ne, bne_eq_false_iff_eq] at hb) <;> first | refine wSkip 10 ?_ | refine wSkipU 10 ?_ | refine wFa 10 ?_))
              all_goals (first | refine wSkip 11 ?_ | refine wSkipU 11 ?_ | refine wLd 11 ?_ | (refine tr_guard (t := 22) rfl (fun hb => ?_) (fun hb => ?_) <;> (try simp only [decide_eq_true_eq, decide_eq_false_iff_not, Bool.not_eq_true, Bool.not_eq_false, beq_iff_eq, bne_iff_ne, ne_eq, Bool.not_eq_eq_eq_not, Bool.not_true, Bool.not_false, beq_eq_false_iff_ne, bne_eq_false_iff_eq] at hb) <;> first | refine wSkip 11 ?_ | refine wSkipU 11 ?_ | refine wLd 11 ?_))
              all_goals (first | refine wSkip 12 ?_ | refine wSkipU 12 ?_ | (refine rStep (i := 12) ?_; ((try refine qWant ?_); (first | (refine tl_is (.func 93) ?_; refine qC rfl rfl (tableR_spec _ _) ?_; rintro v ρ' L' hle ⟨rfl, rfl, rfl⟩ <;> (try simp only [List.cons_append, List.nil_append, List.append_eq, hd])) | (refine qEf ?_; try intro _)) <;> ((try simp only [List.cons_append, List.nil_append, List.append_eq]); refine tl_nil ?_; refine rNext ?_))))
              all_goals (first | refine wSkip 13 ?_ | refine wSkipU 13 ?_ | refine wUn 13 ?_ | (refine tr_guard (t := 22) rfl (fun hb => ?_) (fun hb => ?_) <;> (try simp only [decide_eq_true_eq, decide_eq_false_iff_not, Bool.not_eq_true, Bool.not_eq_false, beq_iff_eq, bne_iff_ne, ne_eq, Bool.not_eq_eq_eq_not, Bool.not_true, Bool.not_false, beq_eq_false_iff_ne, bne_eq_false_iff_eq] at hb) <;> first | refine wSkip 13 ?_ | refine wSkipU 13 ?_ | refine wUn 13 ?_))
              all_goals refine rPk 14 ?_
              all_goals refine rMv 15 ?_
              all_goals (first | refine wSkip 16 ?_ | refine wSkipU 16 ?_ | refine wMv 16 ?_ | (refine tr_guard (t := 29) rfl (fun hb => ?_) (fun hb => ?_) <;> (try simp only [decide_eq_true_eq, decide_eq_false_iff_not, Bool.not_eq_true, Bool.not_eq_false, beq_iff_eq, bne_iff_ne, ne_eq, Bool.not_eq_eq_eq_not, Bool.not_true, Bool.not_false, beq_eq_false_iff_ne, bne_eq_false_iff_eq] at hb) <;> first | refine wSkip 16 ?_ | refine wSkipU 16 ?_ | refine wMv 16 ?_))
              all_goals (first | refine wSkip 17 ?_ | refine wSkipU 17 ?_ | refine wCm 17 ?_ | (refine tr_guard (t := 29) rfl (fun hb => ?_) (fun hb => ?_) <;> (try simp only [decide_eq_true_eq, decide_eq_false_iff_not, Bool.not_eq_true, Bool.not_eq_false, beq_iff_eq, bne_iff_ne, ne_eq, Bool.not_eq_eq_eq_not, Bool.not_true, Bool.not_false, beq_eq_false_iff_ne, bne_eq_false_iff_eq] at hb) <;> first | refine wSkip 17 ?_ | refine wSkipU 17 ?_ | refine wCm 17 ?_))
              all_goals (first | refine wSkip 18 ?_ | refine wSkipU 18 ?_ | refine wMv 18 ?_ | (refine tr_guard (t := 29) rfl (fun hb => ?_) (fun hb => ?_) <;> (try simp only [decide_eq_true_eq, decide_eq_false_iff_not, Bool.not_eq_true, Bool.not_eq_false, beq_iff_eq, bne_iff_ne, ne_eq, Bool.not_eq_eq_eq_not, Bool.not_true, Bool.not_false, beq_eq_false_iff_ne, bne_eq_false_iff_eq] at hb) <;> first | refine wSkip 18 ?_ | refine wSkipU 18 ?_ | refine wMv 18 ?_))
              all_goals (first | refine wSkip 19 ?_ | refine wSkipU 19 ?_ | refine wFa 19 ?_ | (refine tr_guard (t := 32) rfl (fun hb => ?_) (fun hb => ?_) <;> (try simp only [decide_eq_true_eq, decide_eq_false_iff_not, Bool.not_eq_true, Bool.not_eq_false, beq_iff_eq, bne_iff_ne, ne_eq, Bool.not_eq_eq_eq_not, Bool.not_true, Bool.not_false, beq_eq_false_iff_ne, bne_eq_false_iff_eq] at hb) <;> first | refine wSkip 19 ?_ | refine wSkipU 19 ?_ | refine wFa 19 ?_))
              all_goals (first | refine wSkip 20 ?_ | refine wSkipU 20 ?_ | refine wLd 20 ?_ | (refine tr_guard (t := 32) rfl (fun hb => ?_) (fun hb => ?_) <;> (try simp only [decide_eq_true_eq, decide_eq_false_iff_not, Bool.not_eq_true, Bool.not_eq_false, beq_iff_eq, bne_iff_ne, ne_eq, Bool.not_eq_eq_eq_not, Bool.not_true, Bool.not_false, beq_eq_false_iff_ne, bne_eq_false_iff_eq] at hb) <;> first | refine wSkip 20 ?_ | refine wSkipU 20 ?_ | refine wLd 20 ?_))
              all_goals (first | refine wSkip 21 ?_ | refine wSkipU 21 ?_ | refine wBu 21 ?_ | (refine tr_guard (t := 32) rfl (fun hb => ?_) (fun hb => ?_) <;> (try simp only [decide_eq_true_eq, decide_eq_false_iff_not, Bool.not_eq_true, Bool.not_eq_false, beq_iff_eq, bne_iff_ne, ne_eq, Bool.not_eq_eq_eq_not, Bool.not_true, Bool.not_false, beq_eq_false_iff_ne, bne_eq_false_iff_eq] at hb) <;> first | refine wSkip 21 ?_ | refine wSkipU 21 ?_ | refine wBu 21 ?_))
              all_goals (first | refine wSkip 22 ?_ | refine wSkipU 22 ?_ | refine wCm 22 ?_ | (refine tr_guard (t := 32) rfl (fun hb => ?_) (fun hb => ?_) <;> (try simp only [decide_eq_true_eq, decide_eq_false_iff_not, Bool.not_eq_true, Bool.not_eq_false, beq_iff_eq, bne_iff_ne, ne_eq, Bool.not_eq_eq_eq_not, Bool.not_true, Bool.not_false, beq_eq_false_iff_ne, bne_eq_false_iff_eq] at hb) <;> first | refine wSkip 22 ?_ | refine wSkipU 22 ?_ | refine wCm 22 ?_))
              all_goals (first | refine wSkip 23 ?_ | refine wSkipU 23 ?_ | refine wPk 23 ?_ | (refine tr_guard (t := 29) rfl (fun hb => ?_) (fun hb => ?_) <;> (try simp only [decide_eq_true_eq, decide_eq_false_iff_not, Bool.not_eq_true, Bool.not_eq_false, beq_iff_eq, bne_iff_ne, ne_eq, Bool.not_eq_eq_eq_not, Bool.not_true, Bool.not_false, beq_eq_false_iff_ne, bne_eq_false_iff_eq] at hb) <;> first | refine wSkip 23 ?_ | refine wSkipU 23 ?_ | refine wPk 23 ?_))
              all_goals refine rPk 24 ?_
              all_goals refine rMv 25 ?_
              all_goals (first | refine wSkip 26 ?_ | refine wSkipU 26 ?_ | refine wMv 26 ?_ | (refine tr_guard (t := 39) rfl (fun hb => ?_) (fun hb => ?_) <;> (try simp only [decide_eq_true_eq, decide_eq_false_iff_not, Bool.not_eq_true, Bool.not_eq_false, beq_iff_eq, bne_iff_ne, ne_eq, Bool.not_eq_eq_eq_not, Bool.not_true, Bool.not_false, beq_eq_false_iff_ne, bne_eq_false_iff_eq] at hb) <;> first | refine wSkip 26 ?_ | refine wSkipU 26 ?_ | refine wMv 26 ?_))
              all_goals (first | refine wSkip 27 ?_ | refine wSkipU 27 ?_ | refine wCm 27 ?_ | (refine tr_guard (t := 39) rfl (fun hb => ?_) (fun hb => ?_) <;> (try simp only [decide_eq_true_eq, decide_eq_false_iff_not, Bool.not_eq_true, Bool.not_eq_false, beq_iff_eq, bne_iff_ne, ne_eq, Bool.not_eq_eq_eq_not, Bool.not_true, Bool.not_false, beq_eq_false_iff_ne, bne_eq_false_iff_eq] at hb) <;> first | refine wSkip 27 ?_ | refine wSkipU 27 ?_ | refine wCm 27 ?_))
              all_goals (first | refine wSkip 28 ?_ | refine wSkipU 28 ?_ | refine wMv 28 ?_ | (refine tr_guard (t := 39) rfl (fun hb => ?_) (fun hb => ?_) <;> (try simp only [decide_eq_true_eq, decide_eq_false_iff_not, Bool.not_eq_true, Bool.not_eq_false, beq_iff_eq, bne_iff_ne, ne_eq, Bool.not_eq_eq_eq_not, Bool.not_true, Bool.not_false, beq_eq_false_iff_ne, bne_eq_false_iff_eq] at hb) <;> first | refine wSkip 28 ?_ | refine wSkipU 28 ?_ | refine wMv 28 ?_))
              all_goals (first | refine wSkip 29 ?_ | refine wSkipU 29 ?_ | refine wMv 29 ?_ | (refine tr_guard (t := 42) rfl (fun hb => ?_) (fun hb => ?_) <;> (try simp only [decide_eq_true_eq, decide_eq_false_iff_not, Bool.not_eq_true, Bool.not_eq_false, beq_iff_eq, bne_iff_ne, ne_eq, Bool.not_eq_eq_eq_not, Bool.not_true, Bool.not_false, beq_eq_false_iff_ne, bne_eq_false_iff_eq] at hb) <;> first | refine wSkip 29 ?_ | refine wSkipU 29 ?_ | refine wMv 29 ?_))
              all_goals (first | refine wSkip 30 ?_ | refine wSkipU 30 ?_ | refine wMv 30 ?_ | (refine tr_guard (t := 42) rfl (fun hb => ?_) (fun hb => ?_) <;> (try simp only [decide_eq_true_eq, decide_eq_false_iff_not, Bool.not_eq_true, Bool.not_eq_false, beq_iff_eq, bne_iff_ne, ne_eq, Bool.not_eq_eq_eq_not, Bool.not_true, Bool.not_false, beq_eq_false_iff_ne, bne_eq_false_iff_eq] at hb) <;> first | refine wSkip 30 ?_ | refine wSkipU 30 ?_ | refine wMv 30 ?_))
              all_goals (first | refine wSkip 31 ?_ | refine wSkipU 31 ?_ | refine wSb 31 ?_ | (refine tr_guard (t := 42) rfl (fun hb => ?_) (fun hb => ?_) <;> (try simp only [decide_eq_true_eq, decide_eq_false_iff_not, Bool.not_eq_true, Bool.not_eq_false, beq_iff_eq, bne_iff_ne, ne_eq, Bool.not_eq_eq_eq_not, Bool.not_true, Bool.not_false, beq_eq_false_iff_ne, bne_eq_false_iff_eq] at hb) <;> first | refine wSkip 31 ?_ | refine wSkipU 31 ?_ | refine wSb 31 ?_))
              all_goals (first | refine wSkip 32 ?_ | refine wSkipU 32 ?_ | refine wIa 32 ?_ | (refine tr_guard (t := 42) rfl (fun hb => ?_) (fun hb => ?_) <;> (try simp only [decide_eq_true_eq, decide_eq_false_iff_not, Bool.not_eq_true, Bool.not_eq_false, beq_iff_eq, bne_iff_ne, ne_eq, Bool.not_eq_eq_eq_not, Bool.not_true, Bool.not_false, beq_eq_false_iff_ne, bne_eq_false_iff_eq] at hb) <;> first | refine wSkip 32 ?_ | refine wSkipU 32 ?_ | refine wIa 32 ?_))
              all_goals (first | refine wSkip 33 ?_ | refine wSkipU 33 ?_ | refine wFa 33 ?_ | (refine tr_guard (t := 42) rfl (fun hb => ?_) (fun hb => ?_) <;> (try simp only [decide_eq_true_eq, decide_eq_false_iff_not, Bool.not_eq_true, Bool.not_eq_false, beq_iff_eq, bne_iff_ne, ne_eq, Bool.not_eq_eq_eq_not, Bool.not_true, Bool.not_false, beq_eq_false_iff_ne, bne_eq_false_iff_eq] at hb) <;> first | refine wSkip 33 ?_ | refine wSkipU 33 ?_ | refine wFa 33 ?_))
              all_goals (first | refine wSkip 34 ?_ | refine wSkipU 34 ?_ | refine wLd 34 ?_ | (refine tr_guard (t := 42) rfl (fun hb => ?_) (fun hb => ?_) <;> (try simp only [decide_eq_true_eq, decide_eq_false_iff_not, Bool.not_eq_true, Bool.not_eq_false, beq_iff_eq, bne_iff_ne, ne_eq, Bool.not_eq_eq_eq_not, Bool.not_true, Bool.not_false, beq_eq_false_iff_ne, bne_eq_false_iff_eq] at hb) <;> first | refine wSkip 34 ?_ | refine wSkipU 34 ?_ | refine wLd 34 ?_))
              all_goals (first | refine wSkip 36 ?_ | refine wSkipU 36 ?_ | refine wFa 36 ?_ | (refine tr_guard (t := 42) rfl (fun hb => ?_) (fun hb => ?_) <;> (try simp only [decide_eq_true_eq, decide_eq_false_iff_not, Bool.not_eq_true, Bool.not_eq_false, beq_iff_eq, bne_iff_ne, ne_eq, Bool.not_eq_eq_eq_not, Bool.not_true, Bool.not_false, beq_eq_false_iff_ne, bne_eq_false_iff_eq] at hb) <;> first | refine wSkip 36 ?_ | refine wSkipU 36 ?_ | refine wFa 36 ?_))
              all_goals (first | refine wSkip 37 ?_ | refine wSkipU 37 ?_ | refine wLd 37 ?_ | (refine tr_guard (t := 42) rfl (fun hb => ?_) (fun hb => ?_) <;> (try simp only [decide_eq_true_eq, decide_eq_false_iff_not, Bool.not_eq_true, Bool.not_eq_false, beq_iff_eq, bne_iff_ne, ne_eq, Bool.not_eq_eq_eq_not, Bool.not_true, Bool.not_false, beq_eq_false_iff_ne, bne_eq_false_iff_eq] at hb) <;> first | refine wSkip 37 ?_ | refine wSkipU 37 ?_ | refine wLd 37 ?_))
              all_goals (first | refine wSkip 35 ?_ | refine wSkipU 35 ?_ | (refine rStep (i := 35) ?_; ((try refine qWant ?_); (first | (refine qEf ?_; try intro _)) <;> ((try simp only [List.cons_append, List.nil_append, List.append_eq]); refine tl_nil ?_; refine rNext ?_))))
              all_goals (first | refine wSkip 38 ?_ | refine wSkipU 38 ?_ | (refine rStep (i := 38) ?_; ((try refine qWant ?_); (first | (refine qEf ?_; try intro _)) <;> ((try simp only [List.cons_append, List.nil_append, List.append_eq]); refine tl_nil ?_; refine rNext ?_))))
              all_goals refine rFull ?_
              all_goals (first | refine wSkip 39 ?_ | refine wSkipU 39 ?_ | refine wCm 39 ?_ | (refine tr_guard (t := 42) rfl (fun hb => ?_) (fun hb => ?_) <;> (try simp only [decide_eq_true_eq, decide_eq_false_iff_not, Bool.not_eq_true, Bool.not_eq_false, beq_iff_eq, bne_iff_ne, ne_eq, Bool.not_eq_eq_eq_not, Bool.not_true, Bool.not_false, beq_eq_false_iff_ne, bne_eq_false_iff_eq] at hb) <;> first | refine wSkip 39 ?_ | refine wSkipU 39 ?_ | refine wCm 39 ?_))
              all_goals (first | refine wSkip 40 ?_ | refine wSkipU 40 ?_ | refine wPk 40 ?_ | (refine tr_guard (t := 39) rfl (fun hb => ?_) (fun hb => ?_) <;> (try simp only [decide_eq_true_eq, decide_eq_false_iff_not, Bool.not_eq_true, Bool.not_eq_false, beq_iff_eq, bne_iff_ne, ne_eq, Bool.not_eq_eq_eq_not, Bool.not_true, Bool.not_false, beq_eq_false_iff_ne, bne_eq_false_iff_eq] at hb) <;> first | refine wSkip 40 ?_ | refine wSkipU 40 ?_ | refine wPk 40 ?_))
              all_goals refine rPk 41 ?_
              all_goals refine rDone ?_
              repeat' (first | (refine i_op ?_; first | (refine i_qq ?_; refine qQ ?_) | refine qEf ?_) | refine tl_nil ?_ | (refine i_tc ?_; refine qTc ?_) | (refine i_te ?_; refine qTe ?_) | intro _)
              exact qE ⟨rfl, rfl, rfl⟩
          · have hdk : decide (k = 0) = false := decide_eq_false hk0
            rw [hdk, Bool.false_or] at hs
            obtain ⟨b2, off2, C2, T2, fr2, f1, hb2, hfit2, hc2⟩ := h.get (show k - 1 < l.length by omega)
            cases f1
            rw [hb] at hb2
            cases hb2
            have ek : ((k : Int) - 1).toNat = k - 1 := by omega
            have hkey : List.take 2 (List.drop (off + ((k : Int) - 1).toNat * 3) C) = keyV (l[k - 1]'(by omega)).t (l[k - 1]'(by omega)).id := by
              rw [ek]
              have := congrArg (List.take 2) hc2
              rw [List.take_take] at this
              exact this
            have hfit3 : off + ((k : Int) - 1).toNat * 3 + 2 ≤ C.length := by rw [ek]; omega
            obtain ⟨g1, g2⟩ := risesB_true hok (by omega)
            have hrp := (g2 (k - 1) (by omega) (by omega)).1
            have hrk1 : rt (k - 1) (l[k - 1]'(by omega)) = kidOk (k - 1) (psTo l (k - 1)) (l[k - 1]'(by omega)) := by rw [← hrt]
            rw [hrk1] at hrp
            have hrt2 := (of_decide_eq_true hrp).2.2.2.1
            have hidp := hid _ (List.getElem_mem (show k - 1 < l.length by omega))
            clear hc2 hfit2 hrk hrk1 hrp
            generalize l[k - 1]'(by omega) = y at *
            have hor := order_lt (t1 := y.t) (t2 := x.t) hidp hidk
            unfold ltK at hs
            by_cases hcm : cmpK y.t y.id x.t x.id < 0
            · rw [decide_eq_true hcm] at hs
              have hcm2 := hor.1 hcm
              repeat' (first | (refine i_op ?_; first | (refine i_qq ?_; refine qQ ?_) | refine qEf ?_) | refine tl_nil ?_ | (refine i_tc ?_; refine qTc ?_) | (refine i_te ?_; refine qTe ?_) | intro _)
              rename_i b4
              refine tc_any (Stays _ _ _) stays_refl ?_
              all_goals refine rFa 0 ?_
              all_goals refine rLd 1 ?_
              all_goals refine rCm 2 ?_
              all_goals refine rMv 3 ?_
              all_goals (first | refine wSkip 4 ?_ | refine wSkipU 4 ?_ | refine wFa 4 ?_ | (refine tr_guard (t := 17) rfl (fun hb => ?_) (fun hb => ?_) <;> (try simp only [decide_eq_true_eq, decide_eq_false_iff_not, Bool.not_eq_true, Bool.not_eq_false, beq_iff_eq, bne_iff_ne, ne_eq, Bool.not_eq_eq_eq_not, Bool.not_true, Bool.not_false, beq_eq_false_iff_ne, bne_eq_false_iff_eq] at hb) <;> first | refine wSkip 4 ?_ | refine wSkipU 4 ?_ | refine wFa 4 ?_))
              all_goals (first | refine wSkip 5 ?_ | refine wSkipU 5 ?_ | refine wLd 5 ?_ | (refine tr_guard (t := 17) rfl (fun hb => ?_) (fun hb => ?_) <;> (try simp only [decide_eq_true_eq, decide_eq_false_iff_not, Bool.not_eq_true, Bool.not_eq_false, beq_iff_eq, bne_iff_ne, ne_eq, Bool.not_eq_eq_eq_not, Bool.not_true, Bool.not_false, beq_eq_false_iff_ne, bne_eq_false_iff_eq] at hb) <;> first | refine wSkip 5 ?_ | refine wSkipU 5 ?_ | refine wLd 5 ?_))
              all_goals (first | refine wSkip 6 ?_ | refine wSkipU 6 ?_ | refine wCm 6 ?_ | (refine tr_guard (t := 17) rfl (fun hb => ?_) (fun hb => ?_) <;> (try simp only [decide_eq_true_eq, decide_eq_false_iff_not, Bool.not_eq_true, Bool.not_eq_false, beq_iff_eq, bne_iff_ne, ne_eq, Bool.not_eq_eq_eq_not, Bool.not_true, Bool.not_false, beq_eq_false_iff_ne, bne_eq_false_iff_eq] at hb) <;> first | refine wSkip 6 ?_ | refine wSkipU 6 ?_ | refine wCm 6 ?_))
              all_goals refine rPk 7 ?_
              all_goals refine rMv 8 ?_
              all_goals (first | refine wSkip 9 ?_ | refine wSkipU 9 ?_ | refine wFa 9 ?_ | (refine tr_guard (t := 22) rfl (fun hb => ?_) (fun hb => ?_) <;> (try simp only [decide_eq_true_eq, decide_eq_false_iff_not, Bool.not_eq_true, Bool.not_eq_false, beq_iff_eq, bne_iff_ne, ne_eq, Bool.not_eq_eq_eq_not, Bool.not_true, Bool.not_false, beq_eq_false_iff_ne, bne_eq_false_iff_eq] at hb) <;> first | refine wSkip 9 ?_ | refine wSkipU 9 ?_ | refine wFa 9 ?_))
              all_goals (first | refine wSkip 10 ?_ | refine wSkipU 10 ?_ | refine wFa 10 ?_ | (refine tr_guard (t := 22) rfl (fun hb => ?_) (fun hb => ?_) <;> (try simp only [decide_eq_true_eq, decide_eq_false_iff_not, Bool.not_eq_true, Bool.not_eq_false, beq_iff_eq, bne_iff_ne, ne_eq, Bool.not_eq_eq_eq_not, Bool.not_true, Bool.not_false, beq_eq_false_iff_ne, bne_eq_false_iff_eq] at hb) <;> first | refine wSkip 10 ?_ | refine wSkipU 10 ?_ | refine wFa 10 ?_))
              all_goals (first | refine wSkip 11 ?_ | refine wSkipU 11 ?_ | refine wLd 11 ?_ | (refine tr_guard (t := 22) rfl (fun hb => ?_) (fun hb => ?_) <;> (try simp only [decide_eq_true_eq, decide_eq_false_iff_not, Bool.not_eq_true, Bool.not_eq_false, beq_iff_eq, bne_iff_ne, ne_eq, Bool.not_eq_eq_eq_not, Bool.not_true, Bool.not_false, beq_eq_false_iff_ne, bne_eq_false_iff_eq] at hb) <;> first | refine wSkip 11 ?_ | refine wSkipU 11 ?_ | refine wLd 11 ?_))
              all_goals (first | refine wSkip 12 ?_ | refine wSkipU 12 ?_ | (refine rStep (i := 12) ?_; ((try refine qWant ?_); (first | (refine tl_is (.func 93) ?_; refine qC rfl rfl (tableR_spec _ _) ?_; rintro v ρ' L' hle ⟨rfl, rfl, rfl⟩ <;> (try simp only [List.cons_append, List.nil_append, List.append_eq, hd])) | (refine qEf ?_; try intro _)) <;> ((try simp only [List.cons_append, List.nil_append, List.append_eq]); refine tl_nil ?_; refine rNext ?_))))
              all_goals (first | refine wSkip 13 ?_ | refine wSkipU 13 ?_ | refine wUn 13 ?_ | (refine tr_guard (t := 22) rfl (fun hb => ?_) (fun hb => ?_) <;> (try simp only [decide_eq_true_eq, decide_eq_false_iff_not, Bool.not_eq_true, Bool.not_eq_false, beq_iff_eq, bne_iff_ne, ne_eq, Bool.not_eq_eq_eq_not, Bool.not_true, Bool.not_false, beq_eq_false_iff_ne, bne_eq_false_iff_eq] at hb) <;> first | refine wSkip 13 ?_ | refine wSkipU 13 ?_ | refine wUn 13 ?_))
              all_goals refine rPk 14 ?_
              all_goals refine rMv 15 ?_
              all_goals (first | refine wSkip 16 ?_ | refine wSkipU 16 ?_ | refine wMv 16 ?_ | (refine tr_guard (t := 29) rfl (fun hb => ?_) (fun hb => ?_) <;> (try simp only [decide_eq_true_eq, decide_eq_false_iff_not, Bool.not_eq_true, Bool.not_eq_false, beq_iff_eq, bne_iff_ne, ne_eq, Bool.not_eq_eq_eq_not, Bool.not_true, Bool.not_false, beq_eq_false_iff_ne, bne_eq_false_iff_eq] at hb) <;> first | refine wSkip 16 ?_ | refine wSkipU 16 ?_ | refine wMv 16 ?_))
              all_goals (first | refine wSkip 17 ?_ | refine wSkipU 17 ?_ | refine wCm 17 ?_ | (refine tr_guard (t := 29) rfl (fun hb => ?_) (fun hb => ?_) <;> (try simp only [decide_eq_true_eq, decide_eq_false_iff_not, Bool.not_eq_true, Bool.not_eq_false, beq_iff_eq, bne_iff_ne, ne_eq, Bool.not_eq_eq_eq_not, Bool.not_true, Bool.not_false, beq_eq_false_iff_ne, bne_eq_false_iff_eq] at hb) <;> first | refine wSkip 17 ?_ | refine wSkipU 17 ?_ | refine wCm 17 ?_))
              all_goals (first | refine wSkip 18 ?_ | refine wSkipU 18 ?_ | refine wMv 18 ?_ | (refine tr_guard (t := 29) rfl (fun hb => ?_) (fun hb => ?_) <;> (try simp only [decide_eq_true_eq, decide_eq_false_iff_not, Bool.not_eq_true, Bool.not_eq_false, beq_iff_eq, bne_iff_ne, ne_eq, Bool.not_eq_eq_eq_not, Bool.not_true, Bool.not_false, beq_eq_false_iff_ne, bne_eq_false_iff_eq] at hb) <;> first | refine wSkip 18 ?_ | refine wSkipU 18 ?_ | refine wMv 18 ?_))
              all_goals (first | refine wSkip 19 ?_ | refine wSkipU 19 ?_ | refine wFa 19 ?_ | (refine tr_guard (t := 32) rfl (fun hb => ?_) (fun hb => ?_) <;> (try simp only [decide_eq_true_eq, decide_eq_false_iff_not, Bool.not_eq_true, Bool.not_eq_false, beq_iff_eq, bne_iff_ne, ne_eq, Bool.not_eq_eq_eq_not, Bool.not_true, Bool.not_false, beq_eq_false_iff_ne, bne_eq_false_iff_eq] at hb) <;> first | refine wSkip 19 ?_ | refine wSkipU 19 ?_ | refine wFa 19 ?_))
              all_goals (first | refine wSkip 20 ?_ | refine wSkipU 20 ?_ | refine wLd 20 ?_ | (refine tr_guard (t := 32) rfl (fun hb => ?_) (fun hb => ?_) <;> (try simp only [decide_eq_true_eq, decide_eq_false_iff_not, Bool.not_eq_true, Bool.not_eq_false, beq_iff_eq, bne_iff_ne, ne_eq, Bool.not_eq_eq_eq_not, Bool.not_true, Bool.not_false, beq_eq_false_iff_ne, bne_eq_false_iff_eq] at hb) <;> first | refine wSkip 20 ?_ | refine wSkipU 20 ?_ | refine wLd 20 ?_))
              all_goals (first | refine wSkip 21 ?_ | refine wSkipU 21 ?_ | refine wBu 21 ?_ | (refine tr_guard (t := 32) rfl (fun hb => ?_) (fun hb => ?_) <;> (try simp only [decide_eq_true_eq, decide_eq_false_iff_not, Bool.not_eq_true, Bool.not_eq_false, beq_iff_eq, bne_iff_ne, ne_eq, Bool.not_eq_eq_eq_not, Bool.not_true, Bool.not_false, beq_eq_false_iff_ne, bne_eq_false_iff_eq] at hb) <;> first | refine wSkip 21 ?_ | refine wSkipU 21 ?_ | refine wBu 21 ?_))
              all_goals (first | refine wSkip 22 ?_ | refine wSkipU 22 ?_ | refine wCm 22 ?_ | (refine tr_guard (t := 32) rfl (fun hb => ?_) (fun hb => ?_) <;> (try simp only [decide_eq_true_eq, decide_eq_false_iff_not, Bool.not_eq_true, Bool.not_eq_false, beq_iff_eq, bne_iff_ne, ne_eq, Bool.not_eq_eq_eq_not, Bool.not_true, Bool.not_false, beq_eq_false_iff_ne, bne_eq_false_iff_eq] at hb) <;> first | refine wSkip 22 ?_ | refine wSkipU 22 ?_ | refine wCm 22 ?_))
              all_goals (first | refine wSkip 23 ?_ | refine wSkipU 23 ?_ | refine wPk 23 ?_ | (refine tr_guard (t := 29) rfl (fun hb => ?_) (fun hb => ?_) <;> (try simp only [decide_eq_true_eq, decide_eq_false_iff_not, Bool.not_eq_true, Bool.not_eq_false, beq_iff_eq, bne_iff_ne, ne_eq, Bool.not_eq_eq_eq_not, Bool.not_true, Bool.not_false, beq_eq_false_iff_ne, bne_eq_false_iff_eq] at hb) <;> first | refine wSkip 23 ?_ | refine wSkipU 23 ?_ | refine wPk 23 ?_))
              all_goals refine rPk 24 ?_
              all_goals refine rMv 25 ?_
              all_goals (first | refine wSkip 26 ?_ | refine wSkipU 26 ?_ | refine wMv 26 ?_ | (refine tr_guard (t := 39) rfl (fun hb => ?_) (fun hb => ?_) <;> (try simp only [decide_eq_true_eq, decide_eq_false_iff_not, Bool.not_eq_true, Bool.not_eq_false, beq_iff_eq, bne_iff_ne, ne_eq, Bool.not_eq_eq_eq_not, Bool.not_true, Bool.not_false, beq_eq_false_iff_ne, bne_eq_false_iff_eq] at hb) <;> first | refine wSkip 26 ?_ | refine wSkipU 26 ?_ | refine wMv 26 ?_))
              all_goals (first | refine wSkip 27 ?_ | refine wSkipU 27 ?_ | refine wCm 27 ?_ | (refine tr_guard (t := 39) rfl (fun hb => ?_) (fun hb => ?_) <;> (try simp only [decide_eq_true_eq, decide_eq_false_iff_not, Bool.not_eq_true, Bool.not_eq_false, beq_iff_eq, bne_iff_ne, ne_eq, Bool.not_eq_eq_eq_not, Bool.not_true, Bool.not_false, beq_eq_false_iff_ne, bne_eq_false_iff_eq] at hb) <;> first | refine wSkip 27 ?_ | refine wSkipU 27 ?_ | refine wCm 27 ?_))
              all_goals (first | refine wSkip 28 ?_ | refine wSkipU 28 ?_ | refine wMv 28 ?_ | (refine tr_guard (t := 39) rfl (fun hb => ?_) (fun hb => ?_) <;> (try simp only [decide_eq_true_eq, decide_eq_false_iff_not, Bool.not_eq_true, Bool.not_eq_false, beq_iff_eq, bne_iff_ne, ne_eq, Bool.not_eq_eq_eq_not, Bool.not_true, Bool.not_false, beq_eq_false_iff_ne, bne_eq_false_iff_eq] at hb) <;> first | refine wSkip 28 ?_ | refine wSkipU 28 ?_ | refine wMv 28 ?_))
              all_goals (first | refine wSkip 29 ?_ | refine wSkipU 29 ?_ | refine wMv 29 ?_ | (refine tr_guard (t := 42) rfl (fun hb => ?_) (fun hb => ?_) <;> (try simp only [decide_eq_true_eq, decide_eq_false_iff_not, Bool.not_eq_true, Bool.not_eq_false, beq_iff_eq, bne_iff_ne, ne_eq, Bool.not_eq_eq_eq_not, Bool.not_true, Bool.not_false, beq_eq_false_iff_ne, bne_eq_false_iff_eq] at hb) <;> first | refine wSkip 29 ?_ | refine wSkipU 29 ?_ | refine wMv 29 ?_))
              all_goals (first | refine wSkip 30 ?_ | refine wSkipU 30 ?_ | refine wMv 30 ?_ | (refine tr_guard (t := 42) rfl (fun hb => ?_) (fun hb => ?_) <;> (try simp only [decide_eq_true_eq, decide_eq_false_iff_not, Bool.not_eq_true, Bool.not_eq_false, beq_iff_eq, bne_iff_ne, ne_eq, Bool.not_eq_eq_eq_not, Bool.not_true, Bool.not_false, beq_eq_false_iff_ne, bne_eq_false_iff_eq] at hb) <;> first | refine wSkip 30 ?_ | refine wSkipU 30 ?_ | refine wMv 30 ?_))
              all_goals (first | refine wSkip 31 ?_ | refine wSkipU 31 ?_ | refine wSb 31 ?_ | (refine tr_guard (t := 42) rfl (fun hb => ?_) (fun hb => ?_) <;> (try simp only [decide_eq_true_eq, decide_eq_false_iff_not, Bool.not_eq_true, Bool.not_eq_false, beq_iff_eq, bne_iff_ne, ne_eq, Bool.not_eq_eq_eq_not, Bool.not_true, Bool.not_false, beq_eq_false_iff_ne, bne_eq_false_iff_eq] at hb) <;> first | refine wSkip 31 ?_ | refine wSkipU 31 ?_ | refine wSb 31 ?_))
              all_goals (first | refine wSkip 32 ?_ | refine wSkipU 32 ?_ | refine wIa 32 ?_ | (refine tr_guard (t := 42) rfl (fun hb => ?_) (fun hb => ?_) <;> (try simp only [decide_eq_true_eq, decide_eq_false_iff_not, Bool.not_eq_true, Bool.not_eq_false, beq_iff_eq, bne_iff_ne, ne_eq, Bool.not_eq_eq_eq_not, Bool.not_true, Bool.not_false, beq_eq_false_iff_ne, bne_eq_false_iff_eq] at hb) <;> first | refine wSkip 32 ?_ | refine wSkipU 32 ?_ | refine wIa 32 ?_))
              all_goals (first | refine wSkip 33 ?_ | refine wSkipU 33 ?_ | refine wFa 33 ?_ | (refine tr_guard (t := 42) rfl (fun hb => ?_) (fun hb => ?_) <;> (try simp only [decide_eq_true_eq, decide_eq_false_iff_not, Bool.not_eq_true, Bool.not_eq_false, beq_iff_eq, bne_iff_ne, ne_eq, Bool.not_eq_eq_eq_not, Bool.not_true, Bool.not_false, beq_eq_false_iff_ne, bne_eq_false_iff_eq] at hb) <;> first | refine wSkip 33 ?_ | refine wSkipU 33 ?_ | refine wFa 33 ?_))
              all_goals (first | refine wSkip 34 ?_ | refine wSkipU 34 ?_ | refine wLd 34 ?_ | (refine tr_guard (t := 42) rfl (fun hb => ?_) (fun hb => ?_) <;> (try simp only [decide_eq_true_eq, decide_eq_false_iff_not, Bool.not_eq_true, Bool.not_eq_false, beq_iff_eq, bne_iff_ne, ne_eq, Bool.not_eq_eq_eq_not, Bool.not_true, Bool.not_false, beq_eq_false_iff_ne, bne_eq_false_iff_eq] at hb) <;> first | refine wSkip 34 ?_ | refine wSkipU 34 ?_ | refine wLd 34 ?_))
              all_goals (first | refine wSkip 36 ?_ | refine wSkipU 36 ?_ | refine wFa 36 ?_ | (refine tr_guard (t := 42) rfl (fun hb => ?_) (fun hb => ?_) <;> (try simp only [decide_eq_true_eq, decide_eq_false_iff_not, Bool.not_eq_true, Bool.not_eq_false, beq_iff_eq, bne_iff_ne, ne_eq, Bool.not_eq_eq_eq_not, Bool.not_true, Bool.not_false, beq_eq_false_iff_ne, bne_eq_false_iff_eq] at hb) <;> first | refine wSkip 36 ?_ | refine wSkipU 36 ?_ | refine wFa 36 ?_))
              all_goals (first | refine wSkip 37 ?_ | refine wSkipU 37 ?_ | refine wLd 37 ?_ | (refine tr_guard (t := 42) rfl (fun hb => ?_) (fun hb => ?_) <;> (try simp only [decide_eq_true_eq, decide_eq_false_iff_not, Bool.not_eq_true, Bool.not_eq_false, beq_iff_eq, bne_iff_ne, ne_eq, Bool.not_eq_eq_eq_not, Bool.not_true, Bool.not_false, beq_eq_false_iff_ne, bne_eq_false_iff_eq] at hb) <;> first | refine wSkip 37 ?_ | refine wSkipU 37 ?_ | refine wLd 37 ?_))
              all_goals (first | refine wSkip 35 ?_ | refine wSkipU 35 ?_ | (refine rStep (i := 35) ?_; ((try refine qWant ?_); (first | (refine tl_is (.func 154) ?_; refine qC rfl rfl (order_spec _ y.t y.id hrt2.1 hrt2.2 hidp) ?_; rintro v ρ' L' hle ⟨rfl, rfl, rfl⟩ <;> (try simp only [List.cons_append, List.nil_append, List.append_eq])) | (refine tl_is (.func 154) ?_; refine qC rfl rfl (order_spec _ x.t x.id ht.1 ht.2 hidk) ?_; rintro v ρ' L' hle ⟨rfl, rfl, rfl⟩ <;> (try simp only [List.cons_append, List.nil_append, List.append_eq])) | (refine qEf ?_; try intro _)) <;> ((try simp only [List.cons_append, List.nil_append, List.append_eq]); refine tl_nil ?_; refine rNext ?_))))
              all_goals (first | refine wSkip 38 ?_ | refine wSkipU 38 ?_ | (refine rStep (i := 38) ?_; ((try refine qWant ?_); (first | (refine tl_is (.func 154) ?_; refine qC rfl rfl (order_spec _ y.t y.id hrt2.1 hrt2.2 hidp) ?_; rintro v ρ' L' hle ⟨rfl, rfl, rfl⟩ <;> (try simp only [List.cons_append, List.nil_append, List.append_eq])) | (refine tl_is (.func 154) ?_; refine qC rfl rfl (order_spec _ x.t x.id ht.1 ht.2 hidk) ?_; rintro v ρ' L' hle ⟨rfl, rfl, rfl⟩ <;> (try simp only [List.cons_append, List.nil_append, List.append_eq])) | (refine qEf ?_; try intro _)) <;> ((try simp only [List.cons_append, List.nil_append, List.append_eq]); refine tl_nil ?_; refine rNext ?_))))
              all_goals refine rFull ?_
              all_goals (first | refine wSkip 39 ?_ | refine wSkipU 39 ?_ | refine wCm 39 ?_ | (refine tr_guard (t := 42) rfl (fun hb => ?_) (fun hb => ?_) <;> (try simp only [decide_eq_true_eq, decide_eq_false_iff_not, Bool.not_eq_true, Bool.not_eq_false, beq_iff_eq, bne_iff_ne, ne_eq, Bool.not_eq_eq_eq_not, Bool.not_true, Bool.not_false, beq_eq_false_iff_ne, bne_eq_false_iff_eq] at hb) <;> first | refine wSkip 39 ?_ | refine wSkipU 39 ?_ | refine wCm 39 ?_))
              all_goals (first | refine wSkip 40 ?_ | refine wSkipU 40 ?_ | refine wPk 40 ?_ | (refine tr_guard (t := 39) rfl (fun hb => ?_) (fun hb => ?_) <;> (try simp only [decide_eq_true_eq, decide_eq_false_iff_not, Bool.not_eq_true, Bool.not_eq_false, beq_iff_eq, bne_iff_ne, ne_eq, Bool.not_eq_eq_eq_not, Bool.not_true, Bool.not_false, beq_eq_false_iff_ne, bne_eq_false_iff_eq] at hb) <;> first | refine wSkip 40 ?_ | refine wSkipU 40 ?_ | refine wPk 40 ?_))
              all_goals refine rPk 41 ?_
              all_goals refine rDone ?_
              repeat' (first | (refine i_op ?_; first | (refine i_qq ?_; refine qQ ?_) | refine qEf ?_) | refine tl_nil ?_ | (refine i_tc ?_; refine qTc ?_) | (refine i_te ?_; refine qTe ?_) | intro _)
              simp only [Int.toNat_natCast]
              refine tc_loop_g [(0, _), (2, _), (4, _), (7, _), (8, _), (9, _), (58, _), (59, _)] (fun (ζ : (Nat)) => [(60, .int .i64 ζ)]) (fun (ζ : (Nat)) => ρ') (fun (ζ : (Nat)) => [[(b4, .cells ⟨kidV x⟩ 134 (0, 0))]]) (fun (ζ : (Nat)) => ζ ≤ k ∧ ∀ y ∈ l.take ζ, y.page ≠ x.page) (fun (ζ : (Nat)) => k - ζ) (0) (⟨Nat.zero_le _, by simp⟩) ev_le ev_le rfl tk ?_
              rintro j hI
              try simp only [List.cons_append, List.nil_append, List.append_assoc, List.append_eq] at hI ⊢
              try dsimp only at hI ⊢
              obtain ⟨hj, hjo⟩ := hI
              by_cases hjk : j < k
              · obtain ⟨b3, off3, C3, T3, fr3, f3, hb3, hfit3, hc3⟩ := h.get (show j < l.length by omega)
                cases f3
                rw [hb] at hb3
                cases hb3
                have htj := List.take_succ_eq_append_getElem (show j < l.length by omega)
                have hjm : l[j]'(by omega) ∈ l.take k := by
                  rw [List.mem_take_iff_getElem]
                  exact ⟨j, by omega, rfl⟩
                generalize hZ : l[j]'(by omega) = z at *
                by_cases hp : z.page = x.page
                · rw [hx (x.page ∉ psTo l k) (fun e => (hkx e).1) (fun e => e (psTo_mem.2 ⟨z, hjm, hp⟩))]
                  repeat' (first | (refine i_op ?_; first | (refine i_qq ?_; refine qQ ?_) | refine qEf ?_) | refine tl_nil ?_ | (refine i_tc ?_; refine qTc ?_) | (refine i_te ?_; refine qTe ?_) | intro _)
                  exact qE ⟨rfl, rfl, rfl⟩
                · have hjn : ∀ y ∈ l.take (j + 1), y.page ≠ x.page := by
                      intro y hy
                      rw [htj] at hy
                      rcases List.mem_append.1 hy with hy | hy
                      · exact hjo y hy
                      · rw [List.mem_singleton.1 hy]; exact hp
                  repeat' (first | (refine i_op ?_; first | (refine i_qq ?_; refine qQ ?_) | refine qEf ?_) | refine tl_nil ?_ | (refine i_tc ?_; refine qTc ?_) | (refine i_te ?_; refine qTe ?_) | intro _)
                  refine te_round_g (j + 1) (⟨hjk, hjn⟩) ev_le ev_le rfl tk inferInstance (by first | omega | (dsimp only; omega))
              · have hj2 : j = k := by omega
                subst hj2
                have hke : kidOk j (psTo l j) x = true := decide_eq_true ⟨fun e => by obtain ⟨y, hy, he⟩ := psTo_mem.1 e; exact hjo y hy he, p0, p6, ht, .inl (by omega)⟩
                rw [hke, Bool.true_and] at hs
                have hs' : risesB n rt ltK l (j + 1) = true := hs
                repeat' (first | (refine i_op ?_; first | (refine i_qq ?_; refine qQ ?_) | refine qEf ?_) | refine tl_nil ?_ | (refine i_tc ?_; refine qTc ?_) | (refine i_te ?_; refine qTe ?_) | intro _)
                refine te_round_g (j + 1) (⟨hlt, hs'⟩) ev_le ev_le rfl tk inferInstance (by first | omega | (dsimp only; omega))
            · rw [decide_eq_false hcm, Bool.and_false] at hs
              have hcm2 : ¬ (y.t * 65536 + y.id < x.t * 65536 + x.id) := fun h => hcm (hor.2 h)
              rw [hfin hs]
              simp only [Bool.and_false]
              repeat' (first | (refine i_op ?_; first | (refine i_qq ?_; refine qQ ?_) | refine qEf ?_) | refine tl_nil ?_ | (refine i_tc ?_; refine qTc ?_) | (refine i_te ?_; refine qTe ?_) | intro _)
              refine tc_any (Stays _ _ _) stays_refl ?_
              all_goals refine rFa 0 ?_
              all_goals refine rLd 1 ?_
              all_goals refine rCm 2 ?_
              all_goals refine rMv 3 ?_
              all_goals (first | refine wSkip 4 ?_ | refine wSkipU 4 ?_ | refine wFa 4 ?_ | (refine tr_guard (t := 17) rfl (fun hb => ?_) (fun hb => ?_) <;> (try simp only [decide_eq_true_eq, decide_eq_false_iff_not, Bool.not_eq_true, Bool.not_eq_false, beq_iff_eq, bne_iff_ne, ne_eq, Bool.not_eq_eq_eq_not, Bool.not_true, Bool.not_false, beq_eq_false_iff_ne, bne_eq_false_iff_eq] at hb) <;> first | refine wSkip 4 ?_ | refine wSkipU 4 ?_ | refine wFa 4 ?_))
              all_goals (first | refine wSkip 5 ?_ | refine wSkipU 5 ?_ | refine wLd 5 ?_ | (refine tr_guard (t := 17) rfl (fun hb => ?_) (fun hb => ?_) <;> (try simp only [decide_eq_true_eq, decide_eq_false_iff_not, Bool.not_eq_true, Bool.not_eq_false, beq_iff_eq, bne_iff_ne, ne_eq, Bool.not_eq_eq_eq_not, Bool.not_true, Bool.not_false, beq_eq_false_iff_ne, bne_eq_false_iff_eq] at hb) <;> first | refine wSkip 5 ?_ | refine wSkipU 5 ?_ | refine wLd 5 ?_))
              all_goals (first | refine wSkip 6 ?_ | refine wSkipU 6 ?_ | refine wCm 6 ?_ | (refine tr_guard (t := 17) rfl (fun hb => ?_) (fun hb => ?_) <;> (try simp only [decide_eq_true_eq, decide_eq_false_iff_not, Bool.not_eq_true, Bool.not_eq_false, beq_iff_eq, bne_iff_ne, ne_eq, Bool.not_eq_eq_eq_not, Bool.not_true, Bool.not_false, beq_eq_false_iff_ne, bne_eq_false_iff_eq] at hb) <;> first | refine wSkip 6 ?_ | refine wSkipU 6 ?_ | refine wCm 6 ?_))
              all_goals refine rPk 7 ?_
              all_goals refine rMv 8 ?_
              all_goals (first | refine wSkip 9 ?_ | refine wSkipU 9 ?_ | refine wFa 9 ?_ | (refine tr_guard (t := 22) rfl (fun hb => ?_) (fun hb => ?_) <;> (try simp only [decide_eq_true_eq, decide_eq_false_iff_not, Bool.not_eq_true, Bool.not_eq_false, beq_iff_eq, bne_iff_ne, ne_eq, Bool.not_eq_eq_eq_not, Bool.not_true, Bool.not_false, beq_eq_false_iff_ne, bne_eq_false_iff_eq] at hb) <;> first | refine wSkip 9 ?_ | refine wSkipU 9 ?_ | refine wFa 9 ?_))
              all_goals (first | refine wSkip 10 ?_ | refine wSkipU 10 ?_ | refine wFa 10 ?_ | (refine tr_guard (t := 22) rfl (fun hb => ?_) (fun hb => ?_) <;> (try simp only [decide_eq_true_eq, decide_eq_false_iff_not, Bool.not_eq_true, Bool.not_eq_false, beq_iff_eq, bne_iff_ne, ne_eq, Bool.not_eq_eq_eq_not, Bool.not_true, Bool.not_false, beq_eq_false_iff_ne, bne_eq_false_iff_eq] at hb) <;> first | refine wSkip 10 ?_ | refine wSkipU 10 ?_ | refine wFa 10 ?_))
              all_goals (first | refine wSkip 11 ?_ | refine wSkipU 11 ?_ | refine wLd 11 ?_ | (refine tr_guard (t := 22) rfl (fun hb => ?_) (fun hb => ?_) <;> (try simp only [decide_eq_true_eq, decide_eq_false_iff_not, Bool.not_eq_true, Bool.not_eq_false, beq_iff_eq, bne_iff_ne, ne_eq, Bool.not_eq_eq_eq_not, Bool.not_true, Bool.not_false, beq_eq_false_iff_ne, bne_eq_false_iff_eq] at hb) <;> first | refine wSkip 11 ?_ | refine wSkipU 11 ?_ | refine wLd 11 ?_))
              all_goals (first | refine wSkip 12 ?_ | refine wSkipU 12 ?_ | (refine rStep (i := 12) ?_; ((try refine qWant ?_); (first | (refine tl_is (.func 93) ?_; refine qC rfl rfl (tableR_spec _ _) ?_; rintro v ρ' L' hle ⟨rfl, rfl, rfl⟩ <;> (try simp only [List.cons_append, List.nil_append, List.append_eq, hd])) | (refine qEf ?_; try intro _)) <;> ((try simp only [List.cons_append, List.nil_append, List.append_eq]); refine tl_nil ?_; refine rNext ?_))))
              all_goals (first | refine wSkip 13 ?_ | refine wSkipU 13 ?_ | refine wUn 13 ?_ | (refine tr_guard (t := 22) rfl (fun hb => ?_) (fun hb => ?_) <;> (try simp only [decide_eq_true_eq, decide_eq_false_iff_not, Bool.not_eq_true, Bool.not_eq_false, beq_iff_eq, bne_iff_ne, ne_eq, Bool.not_eq_eq_eq_not, Bool.not_true, Bool.not_false, beq_eq_false_iff_ne, bne_eq_false_iff_eq] at hb) <;> first | refine wSkip 13 ?_ | refine wSkipU 13 ?_ | refine wUn 13 ?_))
              all_goals refine rPk 14 ?_
              all_goals refine rMv 15 ?_
              all_goals (first | refine wSkip 16 ?_ | refine wSkipU 16 ?_ | refine wMv 16 ?_ | (refine tr_guard (t := 29) rfl (fun hb => ?_) (fun hb => ?_) <;> (try simp only [decide_eq_true_eq, decide_eq_false_iff_not, Bool.not_eq_true, Bool.not_eq_false, beq_iff_eq, bne_iff_ne, ne_eq, Bool.not_eq_eq_eq_not, Bool.not_true, Bool.not_false, beq_eq_false_iff_ne, bne_eq_false_iff_eq] at hb) <;> first | refine wSkip 16 ?_ | refine wSkipU 16 ?_ | refine wMv 16 ?_))
              all_goals (first | refine wSkip 17 ?_ | refine wSkipU 17 ?_ | refine wCm 17 ?_ | (refine tr_guard (t := 29) rfl (fun hb => ?_) (fun hb => ?_) <;> (try simp only [decide_eq_true_eq, decide_eq_false_iff_not, Bool.not_eq_true, Bool.not_eq_false, beq_iff_eq, bne_iff_ne, ne_eq, Bool.not_eq_eq_eq_not, Bool.not_true, Bool.not_false, beq_eq_false_iff_ne, bne_eq_false_iff_eq] at hb) <;> first | refine wSkip 17 ?_ | refine wSkipU 17 ?_ | refine wCm 17 ?_))
              all_goals (first | refine wSkip 18 ?_ | refine wSkipU 18 ?_ | refine wMv 18 ?_ | (refine tr_guard (t := 29) rfl (fun hb => ?_) (fun hb => ?_) <;> (try simp only [decide_eq_true_eq, decide_eq_false_iff_not, Bool.not_eq_true, Bool.not_eq_false, beq_iff_eq, bne_iff_ne, ne_eq, Bool.not_eq_eq_eq_not, Bool.not_true, Bool.not_false, beq_eq_false_iff_ne, bne_eq_false_iff_eq] at hb) <;> first | refine wSkip 18 ?_ | refine wSkipU 18 ?_ | refine wMv 18 ?_))
              all_goals (first | refine wSkip 19 ?_ | refine wSkipU 19 ?_ | refine wFa 19 ?_ | (refine tr_guard (t := 32) rfl (fun hb => ?_) (fun hb => ?_) <;> (try simp only [decide_eq_true_eq, decide_eq_false_iff_not, Bool.not_eq_true, Bool.not_eq_false, beq_iff_eq, bne_iff_ne, ne_eq, Bool.not_eq_eq_eq_not, Bool.not_true, Bool.not_false, beq_eq_false_iff_ne, bne_eq_false_iff_eq] at hb) <;> first | refine wSkip 19 ?_ | refine wSkipU 19 ?_ | refine wFa 19 ?_))
              all_goals (first | refine wSkip 20 ?_ | refine wSkipU 20 ?_ | refine wLd 20 ?_ | (refine tr_guard (t := 32) rfl (fun hb => ?_) (fun hb => ?_) <;> (try simp only [decide_eq_true_eq, decide_eq_false_iff_not, Bool.not_eq_true, Bool.not_eq_false, beq_iff_eq, bne_iff_ne, ne_eq, Bool.not_eq_eq_eq_not, Bool.not_true, Bool.not_false, beq_eq_false_iff_ne, bne_eq_false_iff_eq] at hb) <;> first | refine wSkip 20 ?_ | refine wSkipU 20 ?_ | refine wLd 20 ?_))
              all_goals (first | refine wSkip 21 ?_ | refine wSkipU 21 ?_ | refine wBu 21 ?_ | (refine tr_guard (t := 32) rfl (fun hb => ?_) (fun hb => ?_) <;> (try simp only [decide_eq_true_eq, decide_eq_false_iff_not, Bool.not_eq_true, Bool.not_eq_false, beq_iff_eq, bne_iff_ne, ne_eq, Bool.not_eq_eq_eq_not, Bool.not_true, Bool.not_false, beq_eq_false_iff_ne, bne_eq_false_iff_eq] at hb) <;> first | refine wSkip 21 ?_ | refine wSkipU 21 ?_ | refine wBu 21 ?_))
              all_goals (first | refine wSkip 22 ?_ | refine wSkipU 22 ?_ | refine wCm 22 ?_ | (refine tr_guard (t := 32) rfl (fun hb => ?_) (fun hb => ?_) <;> (try simp only [decide_eq_true_eq, decide_eq_false_iff_not, Bool.not_eq_true, Bool.not_eq_false, beq_iff_eq, bne_iff_ne, ne_eq, Bool.not_eq_eq_eq_not, Bool.not_true, Bool.not_false, beq_eq_false_iff_ne, bne_eq_false_iff_eq] at hb) <;> first | refine wSkip 22 ?_ | refine wSkipU 22 ?_ | refine wCm 22 ?_))
              all_goals (first | refine wSkip 23 ?_ | refine wSkipU 23 ?_ | refine wPk 23 ?_ | (refine tr_guard (t := 29) rfl (fun hb => ?_) (fun hb => ?_) <;> (try simp only [decide_eq_true_eq, decide_eq_false_iff_not, Bool.not_eq_true, Bool.not_eq_false, beq_iff_eq, bne_iff_ne, ne_eq, Bool.not_eq_eq_eq_not, Bool.not_true, Bool.not_false, beq_eq_false_iff_ne, bne_eq_false_iff_eq] at hb) <;> first | refine wSkip 23 ?_ | refine wSkipU 23 ?_ | refine wPk 23 ?_))
              all_goals refine rPk 24 ?_
              all_goals refine rMv 25 ?_
              all_goals (first | refine wSkip 26 ?_ | refine wSkipU 26 ?_ | refine wMv 26 ?_ | (refine tr_guard (t := 39) rfl (fun hb => ?_) (fun hb => ?_) <;> (try simp only [decide_eq_true_eq, decide_eq_false_iff_not, Bool.not_eq_true, Bool.not_eq_false, beq_iff_eq, bne_iff_ne, ne_eq, Bool.not_eq_eq_eq_not, Bool.not_true, Bool.not_false, beq_eq_false_iff_ne, bne_eq_false_iff_eq] at hb) <;> first | refine wSkip 26 ?_ | refine wSkipU 26 ?_ | refine wMv 26 ?_))
              all_goals (first | refine wSkip 27 ?_ | refine wSkipU 27 ?_ | refine wCm 27 ?_ | (refine tr_guard (t := 39) rfl (fun hb => ?_) (fun hb => ?_) <;> (try simp only [decide_eq_true_eq, decide_eq_false_iff_not, Bool.not_eq_true, Bool.not_eq_false, beq_iff_eq, bne_iff_ne, ne_eq, Bool.not_eq_eq_eq_not, Bool.not_true, Bool.not_false, beq_eq_false_iff_ne, bne_eq_false_iff_eq] at hb) <;> first | refine wSkip 27 ?_ | refine wSkipU 27 ?_ | refine wCm 27 ?_))
              all_goals (first | refine wSkip 28 ?_ | refine wSkipU 28 ?_ | refine wMv 28 ?_ | (refine tr_guard (t := 39) rfl (fun hb => ?_) (fun hb => ?_) <;> (try simp only [decide_eq_true_eq, decide_eq_false_iff_not, Bool.not_eq_true, Bool.not_eq_false, beq_iff_eq, bne_iff_ne, ne_eq, Bool.not_eq_eq_eq_not, Bool.not_true, Bool.not_false, beq_eq_false_iff_ne, bne_eq_false_iff_eq] at hb) <;> first | refine wSkip 28 ?_ | refine wSkipU 28 ?_ | refine wMv 28 ?_))
              all_goals (first | refine wSkip 29 ?_ | refine wSkipU 29 ?_ | refine wMv 29 ?_ | (refine tr_guard (t := 42) rfl (fun hb => ?_) (fun hb => ?_) <;> (try simp only [decide_eq_true_eq, decide_eq_false_iff_not, Bool.not_eq_true, Bool.not_eq_false, beq_iff_eq, bne_iff_ne, ne_eq, Bool.not_eq_eq_eq_not, Bool.not_true, Bool.not_false, beq_eq_false_iff_ne, bne_eq_false_iff_eq] at hb) <;> first | refine wSkip 29 ?_ | refine wSkipU 29 ?_ | refine wMv 29 ?_))
              all_goals (first | refine wSkip 30 ?_ | refine wSkipU 30 ?_ | refine wMv 30 ?_ | (refine tr_guard (t := 42) rfl (fun hb => ?_) (fun hb => ?_) <;> (try simp only [decide_eq_true_eq, decide_eq_false_iff_not, Bool.not_eq_true, Bool.not_eq_false, beq_iff_eq, bne_iff_ne, ne_eq, Bool.not_eq_eq_eq_not, Bool.not_true, Bool.not_false, beq_eq_false_iff_ne, bne_eq_false_iff_eq] at hb) <;> first | refine wSkip 30 ?_ | refine wSkipU 30 ?_ | refine wMv 30 ?_))
              all_goals (first | refine wSkip 31 ?_ | refine wSkipU 31 ?_ | refine wSb 31 ?_ | (refine tr_guard (t := 42) rfl (fun hb => ?_) (fun hb => ?_) <;> (try simp only [decide_eq_true_eq, decide_eq_false_iff_not, Bool.not_eq_true, Bool.not_eq_false, beq_iff_eq, bne_iff_ne, ne_eq, Bool.not_eq_eq_eq_not, Bool.not_true, Bool.not_false, beq_eq_false_iff_ne, bne_eq_false_iff_eq] at hb) <;> first | refine wSkip 31 ?_ | refine wSkipU 31 ?_ | refine wSb 31 ?_))
              all_goals (first | refine wSkip 32 ?_ | refine wSkipU 32 ?_ | refine wIa 32 ?_ | (refine tr_guard (t := 42) rfl (fun hb => ?_) (fun hb => ?_) <;> (try simp only [decide_eq_true_eq, decide_eq_false_iff_not, Bool.not_eq_true, Bool.not_eq_false, beq_iff_eq, bne_iff_ne, ne_eq, Bool.not_eq_eq_eq_not, Bool.not_true, Bool.not_false, beq_eq_false_iff_ne, bne_eq_false_iff_eq] at hb) <;> first | refine wSkip 32 ?_ | refine wSkipU 32 ?_ | refine wIa 32 ?_))
              all_goals (first | refine wSkip 33 ?_ | refine wSkipU 33 ?_ | refine wFa 33 ?_ | (refine tr_guard (t := 42) rfl (fun hb => ?_) (fun hb => ?_) <;> (try simp only [decide_eq_true_eq, decide_eq_false_iff_not, Bool.not_eq_true, Bool.not_eq_false, beq_iff_eq, bne_iff_ne, ne_eq, Bool.not_eq_eq_eq_not, Bool.not_true, Bool.not_false, beq_eq_false_iff_ne, bne_eq_false_iff_eq] at hb) <;> first | refine wSkip 33 ?_ | refine wSkipU 33 ?_ | refine wFa 33 ?_))
              all_goals (first | refine wSkip 34 ?_ | refine wSkipU 34 ?_ | refine wLd 34 ?_ | (refine tr_guard (t := 42) rfl (fun hb => ?_) (fun hb => ?_) <;> (try simp only [decide_eq_true_eq, decide_eq_false_iff_not, Bool.not_eq_true, Bool.not_eq_false, beq_iff_eq, bne_iff_ne, ne_eq, Bool.not_eq_eq_eq_not, Bool.not_true, Bool.not_false, beq_eq_false_iff_ne, bne_eq_false_iff_eq] at hb) <;> first | refine wSkip 34 ?_ | refine wSkipU 34 ?_ | refine wLd 34 ?_))
              all_goals (first | refine wSkip 36 ?_ | refine wSkipU 36 ?_ | refine wFa 36 ?_ | (refine tr_guard (t := 42) rfl (fun hb => ?_) (fun hb => ?_) <;> (try simp only [decide_eq_true_eq, decide_eq_false_iff_not, Bool.not_eq_true, Bool.not_eq_false, beq_iff_eq, bne_iff_ne, ne_eq, Bool.not_eq_eq_eq_not, Bool.not_true, Bool.not_false, beq_eq_false_iff_ne, bne_eq_false_iff_eq] at hb) <;> first | refine wSkip 36 ?_ | refine wSkipU 36 ?_ | refine wFa 36 ?_))
              all_goals (first | refine wSkip 37 ?_ | refine wSkipU 37 ?_ | refine wLd 37 ?_ | (refine tr_guard (t := 42) rfl (fun hb => ?_) (fun hb => ?_) <;> (try simp only [decide_eq_true_eq, decide_eq_false_iff_not, Bool.not_eq_true, Bool.not_eq_false, beq_iff_eq, bne_iff_ne, ne_eq, Bool.not_eq_eq_eq_not, Bool.not_true, Bool.not_false, beq_eq_false_iff_ne, bne_eq_false_iff_eq] at hb) <;> first | refine wSkip 37 ?_ | refine wSkipU 37 ?_ | refine wLd 37 ?_))
              all_goals (first | refine wSkip 35 ?_ | refine wSkipU 35 ?_ | (refine rStep (i := 35) ?_; ((try refine qWant ?_); (first | (refine tl_is (.func 154) ?_; refine qC rfl rfl (order_spec _ y.t y.id hrt2.1 hrt2.2 hidp) ?_; rintro v ρ' L' hle ⟨rfl, rfl, rfl⟩ <;> (try simp only [List.cons_append, List.nil_append, List.append_eq])) | (refine tl_is (.func 154) ?_; refine qC rfl rfl (order_spec _ x.t x.id ht.1 ht.2 hidk) ?_; rintro v ρ' L' hle ⟨rfl, rfl, rfl⟩ <;> (try simp only [List.cons_append, List.nil_append, List.append_eq])) | (refine qEf ?_; try intro _)) <;> ((try simp only [List.cons_append, List.nil_append, List.append_eq]); refine tl_nil ?_; refine rNext ?_))))
              all_goals (first | refine wSkip 38 ?_ | refine wSkipU 38 ?_ | (refine rStep (i := 38) ?_; ((try refine qWant ?_); (first | (refine tl_is (.func 154) ?_; refine qC rfl rfl (order_spec _ y.t y.id hrt2.1 hrt2.2 hidp) ?_; rintro v ρ' L' hle ⟨rfl, rfl, rfl⟩ <;> (try simp only [List.cons_append, List.nil_append, List.append_eq])) | (refine tl_is (.func 154) ?_; refine qC rfl rfl (order_spec _ x.t x.id ht.1 ht.2 hidk) ?_; rintro v ρ' L' hle ⟨rfl, rfl, rfl⟩ <;> (try simp only [List.cons_append, List.nil_append, List.append_eq])) | (refine qEf ?_; try intro _)) <;> ((try simp only [List.cons_append, List.nil_append, List.append_eq]); refine tl_nil ?_; refine rNext ?_))))
              all_goals refine rFull ?_
              all_goals (first | refine wSkip 39 ?_ | refine wSkipU 39 ?_ | refine wCm 39 ?_ | (refine tr_guard (t := 42) rfl (fun hb => ?_) (fun hb => ?_) <;> (try simp only [decide_eq_true_eq, decide_eq_false_iff_not, Bool.not_eq_true, Bool.not_eq_false, beq_iff_eq, bne_iff_ne, ne_eq, Bool.not_eq_eq_eq_not, Bool.not_true, Bool.not_false, beq_eq_false_iff_ne, bne_eq_false_iff_eq] at hb) <;> first | refine wSkip 39 ?_ | refine wSkipU 39 ?_ | refine wCm 39 ?_))
              all_goals (first | refine wSkip 40 ?_ | refine wSkipU 40 ?_ | refine wPk 40 ?_ | (refine tr_guard (t := 39) rfl (fun hb => ?_) (fun hb => ?_) <;> (try simp only [decide_eq_true_eq, decide_eq_false_iff_not, Bool.not_eq_true, Bool.not_eq_false, beq_iff_eq, bne_iff_ne, ne_eq, Bool.not_eq_eq_eq_not, Bool.not_true, Bool.not_false, beq_eq_false_iff_ne, bne_eq_false_iff_eq] at hb) <;> first | refine wSkip 40 ?_ | refine wSkipU 40 ?_ | refine wPk 40 ?_))
              all_goals refine rPk 41 ?_
              all_goals refine rDone ?_
              repeat' (first | (refine i_op ?_; first | (refine i_qq ?_; refine qQ ?_) | refine qEf ?_) | refine tl_nil ?_ | (refine i_tc ?_; refine qTc ?_) | (refine i_te ?_; refine qTe ?_) | intro _)
              exact qE ⟨rfl, rfl, rfl⟩
        · have hd : decide (0 ≤ x.t ∧ x.t < 3) = false := decide_eq_false ht
          rw [hx (0 ≤ x.t ∧ x.t < 3) (fun e => (hkx e).2.2.2.1) ht]
          repeat' (first | (refine i_op ?_; first | (refine i_qq ?_; refine qQ ?_) | refine qEf ?_) | refine tl_nil ?_ | (refine i_tc ?_; refine qTc ?_) | (refine i_te ?_; refine qTe ?_) | intro _)
          refine tc_any (Stays _ _ _) stays_refl ?_
          all_goals refine rFa 0 ?_
          all_goals refine rLd 1 ?_
          all_goals refine rCm 2 ?_
          all_goals refine rMv 3 ?_
          all_goals (first | refine wSkip 4 ?_ | refine wSkipU 4 ?_ | refine wFa 4 ?_ | (refine tr_guard (t := 17) rfl (fun hb => ?_) (fun hb => ?_) <;> (try simp only [decide_eq_true_eq, decide_eq_false_iff_not, Bool.not_eq_true, Bool.not_eq_false, beq_iff_eq, bne_iff_ne, ne_eq, Bool.not_eq_eq_eq_not, Bool.not_true, Bool.not_false, beq_eq_false_iff_ne, bne_eq_false_iff_eq] at hb) <;> first | refine wSkip 4 ?_ | refine wSkipU 4 ?_ | refine wFa 4 ?_))
          all_goals (first | refine wSkip 5 ?_ | refine wSkipU 5 ?_ | refine wLd 5 ?_ | (refine tr_guard (t := 17) rfl (fun hb => ?_) (fun hb => ?_) <;> (try simp only [decide_eq_true_eq, decide_eq_false_iff_not, Bool.not_eq_true, Bool.not_eq_false, beq_iff_eq, bne_iff_ne, ne_eq, Bool.not_eq_eq_eq_not, Bool.not_true, Bool.not_false, beq_eq_false_iff_ne, bne_eq_false_iff_eq] at hb) <;> first | refine wSkip 5 ?_ | refine wSkipU 5 ?_ | refine wLd 5 ?_))
          all_goals (first | refine wSkip 6 ?_ | refine wSkipU 6 ?_ | refine wCm 6 ?_ | (refine tr_guard (t := 17) rfl (fun hb => ?_) (fun hb => ?_) <;> (try simp only [decide_eq_true_eq, decide_eq_false_iff_not, Bool.not_eq_true, Bool.not_eq_false, beq_iff_eq, bne_iff_ne, ne_eq, Bool.not_eq_eq_eq_not, Bool.not_true, Bool.not_false, beq_eq_false_iff_ne, bne_eq_false_iff_eq] at hb) <;> first | refine wSkip 6 ?_ | refine wSkipU 6 ?_ | refine wCm 6 ?_))
          all_goals refine rPk 7 ?_
          all_goals refine rMv 8 ?_
          all_goals (first | refine wSkip 9 ?_ | refine wSkipU 9 ?_ | refine wFa 9 ?_ | (refine tr_guard (t := 22) rfl (fun hb => ?_) (fun hb => ?_) <;> (try simp only [decide_eq_true_eq, decide_eq_false_iff_not, Bool.not_eq_true, Bool.not_eq_false, beq_iff_eq, bne_iff_ne, ne_eq, Bool.not_eq_eq_eq_not, Bool.not_true, Bool.not_false, beq_eq_false_iff_ne, bne_eq_false_iff_eq] at hb) <;> first | refine wSkip 9 ?_ | refine wSkipU 9 ?_ | refine wFa 9 ?_))
          all_goals (first | refine wSkip 10 ?_ | refine wSkipU 10 ?_ | refine wFa 10 ?_ | (refine tr_guard (t := 22) rfl (fun hb => ?_) (fun hb => ?_) <;> (try simp only [decide_eq_true_eq, decide_eq_false_iff_not, Bool.not_eq_true, Bool.not_eq_false, beq_iff_eq, bne_iff_ne, ne_eq, Bool.not_eq_eq_eq_not, Bool.not_true, Bool.not_false, beq_eq_false_iff_ne, bne_eq_false_iff_eq] at hb) <;> first | refine wSkip 10 ?_ | refine wSkipU 10 ?_ | refine wFa 10 ?_))
          all_goals (first | refine wSkip 11 ?_ | refine wSkipU 11 ?_ | refine wLd 11 ?_ | (refine tr_guard (t := 22) rfl (fun hb => ?_) (fun hb => ?_) <;> (try simp only [decide_eq_true_eq, decide_eq_false_iff_not, Bool.not_eq_true, Bool.not_eq_false, beq_iff_eq, bne_iff_ne, ne_eq, Bool.not_eq_eq_eq_not, Bool.not_true, Bool.not_false, beq_eq_false_iff_ne, bne_eq_false_iff_eq] at hb) <;> first | refine wSkip 11 ?_ | refine wSkipU 11 ?_ | refine wLd 11 ?_))
          all_goals (first | refine wSkip 12 ?_ | refine wSkipU 12 ?_ | (refine rStep (i := 12) ?_; ((try refine qWant ?_); (first | (refine tl_is (.func 93) ?_; refine qC rfl rfl (tableR_spec _ _) ?_; rintro v ρ' L' hle ⟨rfl, rfl, rfl⟩ <;> (try simp only [List.cons_append, List.nil_append, List.append_eq, hd])) | (refine qEf ?_; try intro _)) <;> ((try simp only [List.cons_append, List.nil_append, List.append_eq]); refine tl_nil ?_; refine rNext ?_))))
          all_goals (first | refine wSkip 13 ?_ | refine wSkipU 13 ?_ | refine wUn 13 ?_ | (refine tr_guard (t := 22) rfl (fun hb => ?_) (fun hb => ?_) <;> (try simp only [decide_eq_true_eq, decide_eq_false_iff_not, Bool.not_eq_true, Bool.not_eq_false, beq_iff_eq, bne_iff_ne, ne_eq, Bool.not_eq_eq_eq_not, Bool.not_true, Bool.not_false, beq_eq_false_iff_ne, bne_eq_false_iff_eq] at hb) <;> first | refine wSkip 13 ?_ | refine wSkipU 13 ?_ | refine wUn 13 ?_))
          all_goals refine rPk 14 ?_
          all_goals refine rMv 15 ?_
          all_goals (first | refine wSkip 16 ?_ | refine wSkipU 16 ?_ | refine wMv 16 ?_ | (refine tr_guard (t := 29) rfl (fun hb => ?_) (fun hb => ?_) <;> (try simp only [decide_eq_true_eq, decide_eq_false_iff_not, Bool.not_eq_true, Bool.not_eq_false, beq_iff_eq, bne_iff_ne, ne_eq, Bool.not_eq_eq_eq_not, Bool.not_true, Bool.not_false, beq_eq_false_iff_ne, bne_eq_false_iff_eq] at hb) <;> first | refine wSkip 16 ?_ | refine wSkipU 16 ?_ | refine wMv 16 ?_))
          all_goals (first | refine wSkip 17 ?_ | refine wSkipU 17 ?_ | refine wCm 17 ?_ | (refine tr_guard (t := 29) rfl (fun hb => ?_) (fun hb => ?_) <;> (try simp only [decide_eq_true_eq, decide_eq_false_iff_not, Bool.not_eq_true, Bool.not_eq_false, beq_iff_eq, bne_iff_ne, ne_eq, Bool.not_eq_eq_eq_not, Bool.not_true, Bool.not_false, beq_eq_false_iff_ne, bne_eq_false_iff_eq] at hb) <;> first | refine wSkip 17 ?_ | refine wSkipU 17 ?_ | refine wCm 17 ?_))
          all_goals (first | refine wSkip 18 ?_ | refine wSkipU 18 ?_ | refine wMv 18 ?_ | (refine tr_guard (t := 29) rfl (fun hb => ?_) (fun hb => ?_) <;> (try simp only [decide_eq_true_eq, decide_eq_false_iff_not, Bool.not_eq_true, Bool.not_eq_false, beq_iff_eq, bne_iff_ne, ne_eq, Bool.not_eq_eq_eq_not, Bool.not_true, Bool.not_false, beq_eq_false_iff_ne, bne_eq_false_iff_eq] at hb) <;> first | refine wSkip 18 ?_ | refine wSkipU 18 ?_ | refine wMv 18 ?_))
          all_goals (first | refine wSkip 19 ?_ | refine wSkipU 19 ?_ | refine wFa 19 ?_ | (refine tr_guard (t := 32) rfl (fun hb => ?_) (fun hb => ?_) <;> (try simp only [decide_eq_true_eq, decide_eq_false_iff_not, Bool.not_eq_true, Bool.not_eq_false, beq_iff_eq, bne_iff_ne, ne_eq, Bool.not_eq_eq_eq_not, Bool.not_true, Bool.not_false, beq_eq_false_iff_ne, bne_eq_false_iff_eq] at hb) <;> first | refine wSkip 19 ?_ | refine wSkipU 19 ?_ | refine wFa 19 ?_))
          all_goals (first | refine wSkip 20 ?_ | refine wSkipU 20 ?_ | refine wLd 20 ?_ | (refine tr_guard (t := 32) rfl (fun hb => ?_) (fun hb => ?_) <;> (try simp only [decide_eq_true_eq, decide_eq_false_iff_not, Bool.not_eq_true, Bool.not_eq_false, beq_iff_eq, bne_iff_ne, ne_eq, Bool.not_eq_eq_eq_not, Bool.not_true, Bool.not_false, beq_eq_false_iff_ne, bne_eq_false_iff_eq] at hb) <;> first | refine wSkip 20 ?_ | refine wSkipU 20 ?_ | refine wLd 20 ?_))
          all_goals (first | refine wSkip 21 ?_ | refine wSkipU 21 ?_ | refine wBu 21 ?_ | (refine tr_guard (t := 32) rfl (fun hb => ?_) (fun hb => ?_) <;> (try simp only [decide_eq_true_eq, decide_eq_false_iff_not, Bool.not_eq_true, Bool.not_eq_false, beq_iff_eq, bne_iff_ne, ne_eq, Bool.not_eq_eq_eq_not, Bool.not_true, Bool.not_false, beq_eq_false_iff_ne, bne_eq_false_iff_eq] at hb) <;> first | refine wSkip 21 ?_ | refine wSkipU 21 ?_ | refine wBu 21 ?_))
          all_goals (first | refine wSkip 22 ?_ | refine wSkipU 22 ?_ | refine wCm 22 ?_ | (refine tr_guard (t := 32) rfl (fun hb => ?_) (fun hb => ?_) <;> (try simp only [decide_eq_true_eq, decide_eq_false_iff_not, Bool.not_eq_true, Bool.not_eq_false, beq_iff_eq, bne_iff_ne, ne_eq, Bool.not_eq_eq_eq_not, Bool.not_true, Bool.not_false, beq_eq_false_iff_ne, bne_eq_false_iff_eq] at hb) <;> first | refine wSkip 22 ?_ | refine wSkipU 22 ?_ | refine wCm 22 ?_))
          all_goals (first | refine wSkip 23 ?_ | refine wSkipU 23 ?_ | refine wPk 23 ?_ | (refine tr_guard (t := 29) rfl (fun hb => ?_) (fun hb => ?_) <;> (try simp only [decide_eq_true_eq, decide_eq_false_iff_not, Bool.not_eq_true, Bool.not_eq_false, beq_iff_eq, bne_iff_ne, ne_eq, Bool.not_eq_eq_eq_not, Bool.not_true, Bool.not_false, beq_eq_false_iff_ne, bne_eq_false_iff_eq] at hb) <;> first | refine wSkip 23 ?_ | refine wSkipU 23 ?_ | refine wPk 23 ?_))
          all_goals refine rPk 24 ?_
          all_goals refine rMv 25 ?_
          all_goals (first | refine wSkip 26 ?_ | refine wSkipU 26 ?_ | refine wMv 26 ?_ | (refine tr_guard (t := 39) rfl (fun hb => ?_) (fun hb => ?_) <;> (try simp only [decide_eq_true_eq, decide_eq_false_iff_not, Bool.not_eq_true, Bool.not_eq_false, beq_iff_eq, bne_iff_ne, ne_eq, Bool.not_eq_eq_eq_not, Bool.not_true, Bool.not_false, beq_eq_false_iff_ne, bne_eq_false_iff_eq] at hb) <;> first | refine wSkip 26 ?_ | refine wSkipU 26 ?_ | refine wMv 26 ?_))
          all_goals (first | refine wSkip 27 ?_ | refine wSkipU 27 ?_ | refine wCm 27 ?_ | (refine tr_guard (t := 39) rfl (fun hb => ?_) (fun hb => ?_) <;> (try simp only [decide_eq_true_eq, decide_eq_false_iff_not, Bool.not_eq_true, Bool.not_eq_false, beq_iff_eq, bne_iff_ne, ne_eq, Bool.not_eq_eq_eq_not, Bool.not_true, Bool.not_false, beq_eq_false_iff_ne, bne_eq_false_iff_eq] at hb) <;> first | refine wSkip 27 ?_ | refine wSkipU 27 ?_ | refine wCm 27 ?_))
          all_goals (first | refine wSkip 28 ?_ | refine wSkipU 28 ?_ | refine wMv 28 ?_ | (refine tr_guard (t := 39) rfl (fun hb => ?_) (fun hb => ?_) <;> (try simp only [decide_eq_true_eq, decide_eq_false_iff_not, Bool.not_eq_true, Bool.not_eq_false, beq_iff_eq, bne_iff_ne, ne_eq, Bool.not_eq_eq_eq_not, Bool.not_true, Bool.not_false, beq_eq_false_iff_ne, bne_eq_false_iff_eq] at hb) <;> first | refine wSkip 28 ?_ | refine wSkipU 28 ?_ | refine wMv 28 ?_))
          all_goals (first | refine wSkip 29 ?_ | refine wSkipU 29 ?_ | refine wMv 29 ?_ | (refine tr_guard (t := 42) rfl (fun hb => ?_) (fun hb => ?_) <;> (try simp only [decide_eq_true_eq, decide_eq_false_iff_not, Bool.not_eq_true, Bool.not_eq_false, beq_iff_eq, bne_iff_ne, ne_eq, Bool.not_eq_eq_eq_not, Bool.not_true, Bool.not_false, beq_eq_false_iff_ne, bne_eq_false_iff_eq] at hb) <;> first | refine wSkip 29 ?_ | refine wSkipU 29 ?_ | refine wMv 29 ?_))
          all_goals (first | refine wSkip 30 ?_ | refine wSkipU 30 ?_ | refine wMv 30 ?_ | (refine tr_guard (t := 42) rfl (fun hb => ?_) (fun hb => ?_) <;> (try simp only [decide_eq_true_eq, decide_eq_false_iff_not, Bool.not_eq_true, Bool.not_eq_false, beq_iff_eq, bne_iff_ne, ne_eq, Bool.not_eq_eq_eq_not, Bool.not_true, Bool.not_false, beq_eq_false_iff_ne, bne_eq_false_iff_eq] at hb) <;> first | refine wSkip 30 ?_ | refine wSkipU 30 ?_ | refine wMv 30 ?_))
          all_goals (first | refine wSkip 31 ?_ | refine wSkipU 31 ?_ | refine wSb 31 ?_ | (refine tr_guard (t := 42) rfl (fun hb => ?_) (fun hb => ?_) <;> (try simp only [decide_eq_true_eq, decide_eq_false_iff_not, Bool.not_eq_true, Bool.not_eq_false, beq_iff_eq, bne_iff_ne, ne_eq, Bool.not_eq_eq_eq_not, Bool.not_true, Bool.not_false, beq_eq_false_iff_ne, bne_eq_false_iff_eq] at hb) <;> first | refine wSkip 31 ?_ | refine wSkipU 31 ?_ | refine wSb 31 ?_))
          all_goals (first | refine wSkip 32 ?_ | refine wSkipU 32 ?_ | refine wIa 32 ?_ | (refine tr_guard (t := 42) rfl (fun hb => ?_) (fun hb => ?_) <;> (try simp only [decide_eq_true_eq, decide_eq_false_iff_not, Bool.not_eq_true, Bool.not_eq_false, beq_iff_eq, bne_iff_ne, ne_eq, Bool.not_eq_eq_eq_not, Bool.not_true, Bool.not_false, beq_eq_false_iff_ne, bne_eq_false_iff_eq] at hb) <;> first | refine wSkip 32 ?_ | refine wSkipU 32 ?_ | refine wIa 32 ?_))
          all_goals (first | refine wSkip 33 ?_ | refine wSkipU 33 ?_ | refine wFa 33 ?_ | (refine tr_guard (t := 42) rfl (fun hb => ?_) (fun hb => ?_) <;> (try simp only [decide_eq_true_eq, decide_eq_false_iff_not, Bool.not_eq_true, Bool.not_eq_false, beq_iff_eq, bne_iff_ne, ne_eq, Bool.not_eq_eq_eq_not, Bool.not_true, Bool.not_false, beq_eq_false_iff_ne, bne_eq_false_iff_eq] at hb) <;> first | refine wSkip 33 ?_ | refine wSkipU 33 ?_ | refine wFa 33 ?_))
          all_goals (first | refine wSkip 34 ?_ | refine wSkipU 34 ?_ | refine wLd 34 ?_ | (refine tr_guard (t := 42) rfl (fun hb => ?_) (fun hb => ?_) <;> (try simp only [decide_eq_true_eq, decide_eq_false_iff_not, Bool.not_eq_true, Bool.not_eq_false, beq_iff_eq, bne_iff_ne, ne_eq, Bool.not_eq_eq_eq_not, Bool.not_true, Bool.not_false, beq_eq_false_iff_ne, bne_eq_false_iff_eq] at hb) <;> first | refine wSkip 34 ?_ | refine wSkipU 34 ?_ | refine wLd 34 ?_))
          all_goals (first | refine wSkip 36 ?_ | refine wSkipU 36 ?_ | refine wFa 36 ?_ | (refine tr_guard (t := 42) rfl (fun hb => ?_) (fun hb => ?_) <;> (try simp only [decide_eq_true_eq, decide_eq_false_iff_not, Bool.not_eq_true, Bool.not_eq_false, beq_iff_eq, bne_iff_ne, ne_eq, Bool.not_eq_eq_eq_not, Bool.not_true, Bool.not_false, beq_eq_false_iff_ne, bne_eq_false_iff_eq] at hb) <;> first | refine wSkip 36 ?_ | refine wSkipU 36 ?_ | refine wFa 36 ?_))
          all_goals (first | refine wSkip 37 ?_ | refine wSkipU 37 ?_ | refine wLd 37 ?_ | (refine tr_guard (t := 42) rfl (fun hb => ?_) (fun hb => ?_) <;> (try simp only [decide_eq_true_eq, decide_eq_false_iff_not, Bool.not_eq_true, Bool.not_eq_false, beq_iff_eq, bne_iff_ne, ne_eq, Bool.not_eq_eq_eq_not, Bool.not_true, Bool.not_false, beq_eq_false_iff_ne, bne_eq_false_iff_eq] at hb) <;> first | refine wSkip 37 ?_ | refine wSkipU 37 ?_ | refine wLd 37 ?_))
          all_goals (first | refine wSkip 35 ?_ | refine wSkipU 35 ?_ | (refine rStep (i := 35) ?_; ((try refine qWant ?_); (first | (refine qEf ?_; try intro _)) <;> ((try simp only [List.cons_append, List.nil_append, List.append_eq]); refine tl_nil ?_; refine rNext ?_))))
          all_goals (first | refine wSkip 38 ?_ | refine wSkipU 38 ?_ | (refine rStep (i := 38) ?_; ((try refine qWant ?_); (first | (refine qEf ?_; try intro _)) <;> ((try simp only [List.cons_append, List.nil_append, List.append_eq]); refine tl_nil ?_; refine rNext ?_))))
          all_goals refine rFull ?_
          all_goals (first | refine wSkip 39 ?_ | refine wSkipU 39 ?_ | refine wCm 39 ?_ | (refine tr_guard (t := 42) rfl (fun hb => ?_) (fun hb => ?_) <;> (try simp only [decide_eq_true_eq, decide_eq_false_iff_not, Bool.not_eq_true, Bool.not_eq_false, beq_iff_eq, bne_iff_ne, ne_eq, Bool.not_eq_eq_eq_not, Bool.not_true, Bool.not_false, beq_eq_false_iff_ne, bne_eq_false_iff_eq] at hb) <;> first | refine wSkip 39 ?_ | refine wSkipU 39 ?_ | refine wCm 39 ?_))
          all_goals (first | refine wSkip 40 ?_ | refine wSkipU 40 ?_ | refine wPk 40 ?_ | (refine tr_guard (t := 39) rfl (fun hb => ?_) (fun hb => ?_) <;> (try simp only [decide_eq_true_eq, decide_eq_false_iff_not, Bool.not_eq_true, Bool.not_eq_false, beq_iff_eq, bne_iff_ne, ne_eq, Bool.not_eq_eq_eq_not, Bool.not_true, Bool.not_false, beq_eq_false_iff_ne, bne_eq_false_iff_eq] at hb) <;> first | refine wSkip 40 ?_ | refine wSkipU 40 ?_ | refine wPk 40 ?_))
          all_goals refine rPk 41 ?_
          all_goals refine rDone ?_
          repeat' (first | (refine i_op ?_; first | (refine i_qq ?_; refine qQ ?_) | refine qEf ?_) | refine tl_nil ?_ | (refine i_tc ?_; refine qTc ?_) | (refine i_te ?_; refine qTe ?_) | intro _)
          exact qE ⟨rfl, rfl, rfl⟩
      · rw [hx (x.page < 64) (fun e => (hkx e).2.2.1) p6]
        repeat' (first | (refine i_op ?_; first | (refine i_qq ?_; refine qQ ?_) | refine qEf ?_) | refine tl_nil ?_ | (refine i_tc ?_; refine qTc ?_) | (refine i_te ?_; refine qTe ?_) | intro _)
        refine tc_any (Stays _ _ _) stays_refl ?_
        all_goals refine rFa 0 ?_
        all_goals refine rLd 1 ?_
        all_goals refine rCm 2 ?_
        all_goals refine rMv 3 ?_
        all_goals (first | refine wSkip 4 ?_ | refine wSkipU 4 ?_ | refine wFa 4 ?_ | (refine tr_guard (t := 17) rfl (fun hb => ?_) (fun hb => ?_) <;> (try simp only [decide_eq_true_eq, decide_eq_false_iff_not, Bool.not_eq_true, Bool.not_eq_false, beq_iff_eq, bne_iff_ne, ne_eq, Bool.not_eq_eq_eq_not, Bool.not_true, Bool.not_false, beq_eq_false_iff_ne, bne_eq_false_iff_eq] at hb) <;> first | refine wSkip 4 ?_ | refine wSkipU 4 ?_ | refine wFa 4 ?_))
        all_goals (first | refine wSkip 5 ?_ | refine wSkipU 5 ?_ | refine wLd 5 ?_ | (refine tr_guard (t := 17) rfl (fun hb => ?_) (fun hb => ?_) <;> (try simp only [decide_eq_true_eq, decide_eq_false_iff_not, Bool.not_eq_true, Bool.not_eq_false, beq_iff_eq, bne_iff_ne, ne_eq, Bool.not_eq_eq_eq_not, Bool.not_true, Bool.not_false, beq_eq_false_iff_ne, bne_eq_false_iff_eq] at hb) <;> first | refine wSkip 5 ?_ | refine wSkipU 5 ?_ | refine wLd 5 ?_))
        all_goals (first | refine wSkip 6 ?_ | refine wSkipU 6 ?_ | refine wCm 6 ?_ | (refine tr_guard (t := 17) rfl (fun hb => ?_) (fun hb => ?_) <;> (try simp only [decide_eq_true_eq, decide_eq_false_iff_not, Bool.not_eq_true, Bool.not_eq_false, beq_iff_eq, bne_iff_ne, ne_eq, Bool.not_eq_eq_eq_not, Bool.not_true, Bool.not_false, beq_eq_false_iff_ne, bne_eq_false_iff_eq] at hb) <;> first | refine wSkip 6 ?_ | refine wSkipU 6 ?_ | refine wCm 6 ?_))
        all_goals refine rPk 7 ?_
        all_goals refine rMv 8 ?_
        all_goals (first | refine wSkip 9 ?_ | refine wSkipU 9 ?_ | refine wFa 9 ?_ | (refine tr_guard (t := 22) rfl (fun hb => ?_) (fun hb => ?_) <;> (try simp only [decide_eq_true_eq, decide_eq_false_iff_not, Bool.not_eq_true, Bool.not_eq_false, beq_iff_eq, bne_iff_ne, ne_eq, Bool.not_eq_eq_eq_not, Bool.not_true, Bool.not_false, beq_eq_false_iff_ne, bne_eq_false_iff_eq] at hb) <;> first | refine wSkip 9 ?_ | refine wSkipU 9 ?_ | refine wFa 9 ?_))
        all_goals (first | refine wSkip 10 ?_ | refine wSkipU 10 ?_ | refine wFa 10 ?_ | (refine tr_guard (t := 22) rfl (fun hb => ?_) (fun hb => ?_) <;> (try simp only [decide_eq_true_eq, decide_eq_false_iff_not, Bool.not_eq_true, Bool.not_eq_false, beq_iff_eq, bne_iff_ne, ne_eq, Bool.not_eq_eq_eq_not, Bool.not_true, Bool.not_false, beq_eq_false_iff_ne, bne_eq_false_iff_eq] at hb) <;> first | refine wSkip 10 ?_ | refine wSkipU 10 ?_ | refine wFa 10 ?_))
        all_goals (first | refine wSkip 11 ?_ | refine wSkipU 11 ?_ | refine wLd 11 ?_ | (refine tr_guard (t := 22) rfl (fun hb => ?_) (fun hb => ?_) <;> (try simp only [decide_eq_true_eq, decide_eq_false_iff_not, Bool.not_eq_true, Bool.not_eq_false, beq_iff_eq, bne_iff_ne, ne_eq, Bool.not_eq_eq_eq_not, Bool.not_true, Bool.not_false, beq_eq_false_iff_ne, bne_eq_false_iff_eq] at hb) <;> first | refine wSkip 11 ?_ | refine wSkipU 11 ?_ | refine wLd 11 ?_))
        all_goals (first | refine wSkip 12 ?_ | refine wSkipU 12 ?_ | (refine rStep (i := 12) ?_; ((try refine qWant ?_); (first | (refine qEf ?_; try intro _)) <;> ((try simp only [List.cons_append, List.nil_append, List.append_eq]); refine tl_nil ?_; refine rNext ?_))))
        all_goals (first | refine wSkip 13 ?_ | refine wSkipU 13 ?_ | refine wUn 13 ?_ | (refine tr_guard (t := 22) rfl (fun hb => ?_) (fun hb => ?_) <;> (try simp only [decide_eq_true_eq, decide_eq_false_iff_not, Bool.not_eq_true, Bool.not_eq_false, beq_iff_eq, bne_iff_ne, ne_eq, Bool.not_eq_eq_eq_not, Bool.not_true, Bool.not_false, beq_eq_false_iff_ne, bne_eq_false_iff_eq] at hb) <;> first | refine wSkip 13 ?_ | refine wSkipU 13 ?_ | refine wUn 13 ?_))
        all_goals refine rPk 14 ?_
        all_goals refine rMv 15 ?_
        all_goals (first | refine wSkip 16 ?_ | refine wSkipU 16 ?_ | refine wMv 16 ?_ | (refine tr_guard (t := 29) rfl (fun hb => ?_) (fun hb => ?_) <;> (try simp only [decide_eq_true_eq, decide_eq_false_iff_not, Bool.not_eq_true, Bool.not_eq_false, beq_iff_eq, bne_iff_ne, ne_eq, Bool.not_eq_eq_eq_not, Bool.not_true, Bool.not_false, beq_eq_false_iff_ne, bne_eq_false_iff_eq] at hb) <;> first | refine wSkip 16 ?_ | refine wSkipU 16 ?_ | refine wMv 16 ?_))
        all_goals (first | refine wSkip 17 ?_ | refine wSkipU 17 ?_ | refine wCm 17 ?_ | (refine tr_guard (t := 29) rfl (fun hb => ?_) (fun hb => ?_) <;> (try simp only [decide_eq_true_eq, decide_eq_false_iff_not, Bool.not_eq_true, Bool.not_eq_false, beq_iff_eq, bne_iff_ne, ne_eq, Bool.not_eq_eq_eq_not, Bool.not_true, Bool.not_false, beq_eq_false_iff_ne, bne_eq_false_iff_eq] at hb) <;> first | refine wSkip 17 ?_ | refine wSkipU 17 ?_ | refine wCm 17 ?_))
        all_goals (first | refine wSkip 18 ?_ | refine wSkipU 18 ?_ | refine wMv 18 ?_ | (refine tr_guard (t := 29) rfl (fun hb => ?_) (fun hb => ?_) <;> (try simp only [decide_eq_true_eq, decide_eq_false_iff_not, Bool.not_eq_true, Bool.not_eq_false, beq_iff_eq, bne_iff_ne, ne_eq, Bool.not_eq_eq_eq_not, Bool.not_true, Bool.not_false, beq_eq_false_iff_ne, bne_eq_false_iff_eq] at hb) <;> first | refine wSkip 18 ?_ | refine wSkipU 18 ?_ | refine wMv 18 ?_))
        all_goals (first | refine wSkip 19 ?_ | refine wSkipU 19 ?_ | refine wFa 19 ?_ | (refine tr_guard (t := 32) rfl (fun hb => ?_) (fun hb => ?_) <;> (try simp only [decide_eq_true_eq, decide_eq_false_iff_not, Bool.not_eq_true, Bool.not_eq_false, beq_iff_eq, bne_iff_ne, ne_eq, Bool.not_eq_eq_eq_not, Bool.not_true, Bool.not_false, beq_eq_false_iff_ne, bne_eq_false_iff_eq] at hb) <;> first | refine wSkip 19 ?_ | refine wSkipU 19 ?_ | refine wFa 19 ?_))
        all_goals (first | refine wSkip 20 ?_ | refine wSkipU 20 ?_ | refine wLd 20 ?_ | (refine tr_guard (t := 32) rfl (fun hb => ?_) (fun hb => ?_) <;> (try simp only [decide_eq_true_eq, decide_eq_false_iff_not, Bool.not_eq_true, Bool.not_eq_false, beq_iff_eq, bne_iff_ne, ne_eq, Bool.not_eq_eq_eq_not, Bool.not_true, Bool.not_false, beq_eq_false_iff_ne, bne_eq_false_iff_eq] at hb) <;> first | refine wSkip 20 ?_ | refine wSkipU 20 ?_ | refine wLd 20 ?_))
        all_goals (first | refine wSkip 21 ?_ | refine wSkipU 21 ?_ | refine wBu 21 ?_ | (refine tr_guard (t := 32) rfl (fun hb => ?_) (fun hb => ?_) <;> (try simp only [decide_eq_true_eq, decide_eq_false_iff_not, Bool.not_eq_true, Bool.not_eq_false, beq_iff_eq, bne_iff_ne, ne_eq, Bool.not_eq_eq_eq_not, Bool.not_true, Bool.not_false, beq_eq_false_iff_ne, bne_eq_false_iff_eq] at hb) <;> first | refine wSkip 21 ?_ | refine wSkipU 21 ?_ | refine wBu 21 ?_))
        all_goals (first | refine wSkip 22 ?_ | refine wSkipU 22 ?_ | refine wCm 22 ?_ | (refine tr_guard (t := 32) rfl (fun hb => ?_) (fun hb => ?_) <;> (try simp only [decide_eq_true_eq, decide_eq_false_iff_not, Bool.not_eq_true, Bool.not_eq_false, beq_iff_eq, bne_iff_ne, ne_eq, Bool.not_eq_eq_eq_not, Bool.not_true, Bool.not_false, beq_eq_false_iff_ne, bne_eq_false_iff_eq] at hb) <;> first | refine wSkip 22 ?_ | refine wSkipU 22 ?_ | refine wCm 22 ?_))
        all_goals (first | refine wSkip 23 ?_ | refine wSkipU 23 ?_ | refine wPk 23 ?_ | (refine tr_guard (t := 29) rfl (fun hb => ?_) (fun hb => ?_) <;> (try simp only [decide_eq_true_eq, decide_eq_false_iff_not, Bool.not_eq_true, Bool.not_eq_false, beq_iff_eq, bne_iff_ne, ne_eq, Bool.not_eq_eq_eq_not, Bool.not_true, Bool.not_false, beq_eq_false_iff_ne, bne_eq_false_iff_eq] at hb) <;> first | refine wSkip 23 ?_ | refine wSkipU 23 ?_ | refine wPk 23 ?_))
        all_goals refine rPk 24 ?_
        all_goals refine rMv 25 ?_
        all_goals (first | refine wSkip 26 ?_ | refine wSkipU 26 ?_ | refine wMv 26 ?_ | (refine tr_guard (t := 39) rfl (fun hb => ?_) (fun hb => ?_) <;> (try simp only [decide_eq_true_eq, decide_eq_false_iff_not, Bool.not_eq_true, Bool.not_eq_false, beq_iff_eq, bne_iff_ne, ne_eq, Bool.not_eq_eq_eq_not, Bool.not_true, Bool.not_false, beq_eq_false_iff_ne, bne_eq_false_iff_eq] at hb) <;> first | refine wSkip 26 ?_ | refine wSkipU 26 ?_ | refine wMv 26 ?_))
        all_goals (first | refine wSkip 27 ?_ | refine wSkipU 27 ?_ | refine wCm 27 ?_ | (refine tr_guard (t := 39) rfl (fun hb => ?_) (fun hb => ?_) <;> (try simp only [decide_eq_true_eq, decide_eq_false_iff_not, Bool.not_eq_true, Bool.not_eq_false, beq_iff_eq, bne_iff_ne, ne_eq, Bool.not_eq_eq_eq_not, Bool.not_true, Bool.not_false, beq_eq_false_iff_ne, bne_eq_false_iff_eq] at hb) <;> first | refine wSkip 27 ?_ | refine wSkipU 27 ?_ | refine wCm 27 ?_))
        all_goals (first | refine wSkip 28 ?_ | refine wSkipU 28 ?_ | refine wMv 28 ?_ | (refine tr_guard (t := 39) rfl (fun hb => ?_) (fun hb => ?_) <;> (try simp only [decide_eq_true_eq, decide_eq_false_iff_not, Bool.not_eq_true, Bool.not_eq_false, beq_iff_eq, bne_iff_ne, ne_eq, Bool.not_eq_eq_eq_not, Bool.not_true, Bool.not_false, beq_eq_false_iff_ne, bne_eq_false_iff_eq] at hb) <;> first | refine wSkip 28 ?_ | refine wSkipU 28 ?_ | refine wMv 28 ?_))
        all_goals (first | refine wSkip 29 ?_ | refine wSkipU 29 ?_ | refine wMv 29 ?_ | (refine tr_guard (t := 42) rfl (fun hb => ?_) (fun hb => ?_) <;> (try simp only [decide_eq_true_eq, decide_eq_false_iff_not, Bool.not_eq_true, Bool.not_eq_false, beq_iff_eq, bne_iff_ne, ne_eq, Bool.not_eq_eq_eq_not, Bool.not_true, Bool.not_false, beq_eq_false_iff_ne, bne_eq_false_iff_eq] at hb) <;> first | refine wSkip 29 ?_ | refine wSkipU 29 ?_ | refine wMv 29 ?_))
        all_goals (first | refine wSkip 30 ?_ | refine wSkipU 30 ?_ | refine wMv 30 ?_ | (refine tr_guard (t := 42) rfl (fun hb => ?_) (fun hb => ?_) <;> (try simp only [decide_eq_true_eq, decide_eq_false_iff_not, Bool.not_eq_true, Bool.not_eq_false, beq_iff_eq, bne_iff_ne, ne_eq, Bool.not_eq_eq_eq_not, Bool.not_true, Bool.not_false, beq_eq_false_iff_ne, bne_eq_false_iff_eq] at hb) <;> first | refine wSkip 30 ?_ | refine wSkipU 30 ?_ | refine wMv 30 ?_))
        all_goals (first | refine wSkip 31 ?_ | refine wSkipU 31 ?_ | refine wSb 31 ?_ | (refine tr_guard (t := 42) rfl (fun hb => ?_) (fun hb => ?_) <;> (try simp only [decide_eq_true_eq, decide_eq_false_iff_not, Bool.not_eq_true, Bool.not_eq_false, beq_iff_eq, bne_iff_ne, ne_eq, Bool.not_eq_eq_eq_not, Bool.not_true, Bool.not_false, beq_eq_false_iff_ne, bne_eq_false_iff_eq] at hb) <;> first | refine wSkip 31 ?_ | refine wSkipU 31 ?_ | refine wSb 31 ?_))
        all_goals (first | refine wSkip 32 ?_ | refine wSkipU 32 ?_ | refine wIa 32 ?_ | (refine tr_guard (t := 42) rfl (fun hb => ?_) (fun hb => ?_) <;> (try simp only [decide_eq_true_eq, decide_eq_false_iff_not, Bool.not_eq_true, Bool.not_eq_false, beq_iff_eq, bne_iff_ne, ne_eq, Bool.not_eq_eq_eq_not, Bool.not_true, Bool.not_false, beq_eq_false_iff_ne, bne_eq_false_iff_eq] at hb) <;> first | refine wSkip 32 ?_ | refine wSkipU 32 ?_ | refine wIa 32 ?_))
        all_goals (first | refine wSkip 33 ?_ | refine wSkipU 33 ?_ | refine wFa 33 ?_ | (refine tr_guard (t := 42) rfl (fun hb => ?_) (fun hb => ?_) <;> (try simp only [decide_eq_true_eq, decide_eq_false_iff_not, Bool.not_eq_true, Bool.not_eq_false, beq_iff_eq, bne_iff_ne, ne_eq, Bool.not_eq_eq_eq_not, Bool.not_true, Bool.not_false, beq_eq_false_iff_ne, bne_eq_false_iff_eq] at hb) <;> first | refine wSkip 33 ?_ | refine wSkipU 33 ?_ | refine wFa 33 ?_))
        all_goals (first | refine wSkip 34 ?_ | refine wSkipU 34 ?_ | refine wLd 34 ?_ | (refine tr_guard (t := 42) rfl (fun hb => ?_) (fun hb => ?_) <;> (try simp only [decide_eq_true_eq, decide_eq_false_iff_not, Bool.not_eq_true, Bool.not_eq_false, beq_iff_eq, bne_iff_ne, ne_eq, Bool.not_eq_eq_eq_not, Bool.not_true, Bool.not_false, beq_eq_false_iff_ne, bne_eq_false_iff_eq] at hb) <;> first | refine wSkip 34 ?_ | refine wSkipU 34 ?_ | refine wLd 34 ?_))
        all_goals (first | refine wSkip 36 ?_ | refine wSkipU 36 ?_ | refine wFa 36 ?_ | (refine tr_guard (t := 42) rfl (fun hb => ?_) (fun hb => ?_) <;> (try simp only [decide_eq_true_eq, decide_eq_false_iff_not, Bool.not_eq_true, Bool.not_eq_false, beq_iff_eq, bne_iff_ne, ne_eq, Bool.not_eq_eq_eq_not, Bool.not_true, Bool.not_false, beq_eq_false_iff_ne, bne_eq_false_iff_eq] at hb) <;> first | refine wSkip 36 ?_ | refine wSkipU 36 ?_ | refine wFa 36 ?_))
        all_goals (first | refine wSkip 37 ?_ | refine wSkipU 37 ?_ | refine wLd 37 ?_ | (refine tr_guard (t := 42) rfl (fun hb => ?_) (fun hb => ?_) <;> (try simp only [decide_eq_true_eq, decide_eq_false_iff_not, Bool.not_eq_true, Bool.not_eq_false, beq_iff_eq, bne_iff_ne, ne_eq, Bool.not_eq_eq_eq_not, Bool.not_true, Bool.not_false, beq_eq_false_iff_ne, bne_eq_false_iff_eq] at hb) <;> first | refine wSkip 37 ?_ | refine wSkipU 37 ?_ | refine wLd 37 ?_))
        all_goals (first | refine wSkip 35 ?_ | refine wSkipU 35 ?_ | (refine rStep (i := 35) ?_; ((try refine qWant ?_); (first | (refine qEf ?_; try intro _)) <;> ((try simp only [List.cons_append, List.nil_append, List.append_eq]); refine tl_nil ?_; refine rNext ?_))))
        all_goals (first | refine wSkip 38 ?_ | refine wSkipU 38 ?_ | (refine rStep (i := 38) ?_; ((try refine qWant ?_); (first | (refine qEf ?_; try intro _)) <;> ((try simp only [List.cons_append, List.nil_append, List.append_eq]); refine tl_nil ?_; refine rNext ?_))))
        all_goals refine rFull ?_
        all_goals (first | refine wSkip 39 ?_ | refine wSkipU 39 ?_ | refine wCm 39 ?_ | (refine tr_guard (t := 42) rfl (fun hb => ?_) (fun hb => ?_) <;> (try simp only [decide_eq_true_eq, decide_eq_false_iff_not, Bool.not_eq_true, Bool.not_eq_false, beq_iff_eq, bne_iff_ne, ne_eq, Bool.not_eq_eq_eq_not, Bool.not_true, Bool.not_false, beq_eq_false_iff_ne, bne_eq_false_iff_eq] at hb) <;> first | refine wSkip 39 ?_ | refine wSkipU 39 ?_ | refine wCm 39 ?_))
        all_goals (first | refine wSkip 40 ?_ | refine wSkipU 40 ?_ | refine wPk 40 ?_ | (refine tr_guard (t := 39) rfl (fun hb => ?_) (fun hb => ?_) <;> (try simp only [decide_eq_true_eq, decide_eq_false_iff_not, Bool.not_eq_true, Bool.not_eq_false, beq_iff_eq, bne_iff_ne, ne_eq, Bool.not_eq_eq_eq_not, Bool.not_true, Bool.not_false, beq_eq_false_iff_ne, bne_eq_false_iff_eq] at hb) <;> first | refine wSkip 40 ?_ | refine wSkipU 40 ?_ | refine wPk 40 ?_))
        all_goals refine rPk 41 ?_
        all_goals refine rDone ?_
        repeat' (first | (refine i_op ?_; first | (refine i_qq ?_; refine qQ ?_) | refine qEf ?_) | refine tl_nil ?_ | (refine i_tc ?_; refine qTc ?_) | (refine i_te ?_; refine qTe ?_) | intro _)
        exact qE ⟨rfl, rfl, rfl⟩
    · rw [hx (0 < x.page) (fun e => (hkx e).2.1) p0]
      repeat' (first | (refine i_op ?_; first | (refine i_qq ?_; refine qQ ?_) | refine qEf ?_) | refine tl_nil ?_ | (refine i_tc ?_; refine qTc ?_) | (refine i_te ?_; refine qTe ?_) | intro _)
      refine tc_any (Stays _ _ _) stays_refl ?_
      all_goals refine rFa 0 ?_
      all_goals refine rLd 1 ?_
      all_goals refine rCm 2 ?_
      all_goals refine rMv 3 ?_
      all_goals (first | refine wSkip 4 ?_ | refine wSkipU 4 ?_ | refine wFa 4 ?_ | (refine tr_guard (t := 17) rfl (fun hb => ?_) (fun hb => ?_) <;> (try simp only [decide_eq_true_eq, decide_eq_false_iff_not, Bool.not_eq_true, Bool.not_eq_false, beq_iff_eq, bne_iff_ne, ne_eq, Bool.not_eq_eq_eq_not, Bool.not_true, Bool.not_false, beq_eq_false_iff_ne, bne_eq_false_iff_eq] at hb) <;> first | refine wSkip 4 ?_ | refine wSkipU 4 ?_ | refine wFa 4 ?_))
      all_goals (first | refine wSkip 5 ?_ | refine wSkipU 5 ?_ | refine wLd 5 ?_ | (refine tr_guard (t := 17) rfl (fun hb => ?_) (fun hb => ?_) <;> (try simp only [decide_eq_true_eq, decide_eq_false_iff_not, Bool.not_eq_true, Bool.not_eq_false, beq_iff_eq, bne_iff_ne, ne_eq, Bool.not_eq_eq_eq_not, Bool.not_true, Bool.not_false, beq_eq_false_iff_ne, bne_eq_false_iff_eq] at hb) <;> first | refine wSkip 5 ?_ | refine wSkipU 5 ?_ | refine wLd 5 ?_))
      all_goals (first | refine wSkip 6 ?_ | refine wSkipU 6 ?_ | refine wCm 6 ?_ | (refine tr_guard (t := 17) rfl (fun hb => ?_) (fun hb => ?_) <;> (try simp only [decide_eq_true_eq, decide_eq_false_iff_not, Bool.not_eq_true, Bool.not_eq_false, beq_iff_eq, bne_iff_ne, ne_eq, Bool.not_eq_eq_eq_not, Bool.not_true, Bool.not_false, beq_eq_false_iff_ne, bne_eq_false_iff_eq] at hb) <;> first | refine wSkip 6 ?_ | refine wSkipU 6 ?_ | refine wCm 6 ?_))
      all_goals refine rPk 7 ?_
      all_goals refine rMv 8 ?_
      all_goals (first | refine wSkip 9 ?_ | refine wSkipU 9 ?_ | refine wFa 9 ?_ | (refine tr_guard (t := 22) rfl (fun hb => ?_) (fun hb => ?_) <;> (try simp only [decide_eq_true_eq, decide_eq_false_iff_not, Bool.not_eq_true, Bool.not_eq_false, beq_iff_eq, bne_iff_ne, ne_eq, Bool.not_eq_eq_eq_not, Bool.not_true, Bool.not_false, beq_eq_false_iff_ne, bne_eq_false_iff_eq] at hb) <;> first | refine wSkip 9 ?_ | refine wSkipU 9 ?_ | refine wFa 9 ?_))
      all_goals (first | refine wSkip 10 ?_ | refine wSkipU 10 ?_ | refine wFa 10 ?_ | (refine tr_guard (t := 22) rfl (fun hb => ?_) (fun hb => ?_) <;> (try simp only [decide_eq_true_eq, decide_eq_false_iff_not, Bool.not_eq_true, Bool.not_eq_false, beq_iff_eq, bne_iff_ne, ne_eq, Bool.not_eq_eq_eq_not, Bool.not_true, Bool.not_false, beq_eq_false_iff_ne, bne_eq_false_iff_eq] at hb) <;> first | refine wSkip 10 ?_ | refine wSkipU 10 ?_ | refine wFa 10 ?_))
      all_goals (first | refine wSkip 11 ?_ | refine wSkipU 11 ?_ | refine wLd 11 ?_ | (refine tr_guard (t := 22) rfl (fun hb => ?_) (fun hb => ?_) <;> (try simp only [decide_eq_true_eq, decide_eq_false_iff_not, Bool.not_eq_true, Bool.not_eq_false, beq_iff_eq, bne_iff_ne, ne_eq, Bool.not_eq_eq_eq_not, Bool.not_true, Bool.not_false, beq_eq_false_iff_ne, bne_eq_false_iff_eq] at hb) <;> first | refine wSkip 11 ?_ | refine wSkipU 11 ?_ | refine wLd 11 ?_))
      all_goals (first | refine wSkip 12 ?_ | refine wSkipU 12 ?_ | (refine rStep (i := 12) ?_; ((try refine qWant ?_); (first | (refine qEf ?_; try intro _)) <;> ((try simp only [List.cons_append, List.nil_append, List.append_eq]); refine tl_nil ?_; refine rNext ?_))))
      all_goals (first | refine wSkip 13 ?_ | refine wSkipU 13 ?_ | refine wUn 13 ?_ | (refine tr_guard (t := 22) rfl (fun hb => ?_) (fun hb => ?_) <;> (try simp only [decide_eq_true_eq, decide_eq_false_iff_not, Bool.not_eq_true, Bool.not_eq_false, beq_iff_eq, bne_iff_ne, ne_eq, Bool.not_eq_eq_eq_not, Bool.not_true, Bool.not_false, beq_eq_false_iff_ne, bne_eq_false_iff_eq] at hb) <;> first | refine wSkip 13 ?_ | refine wSkipU 13 ?_ | refine wUn 13 ?_))
      all_goals refine rPk 14 ?_
      all_goals refine rMv 15 ?_
      all_goals (first | refine wSkip 16 ?_ | refine wSkipU 16 ?_ | refine wMv 16 ?_ | (refine tr_guard (t := 29) rfl (fun hb => ?_) (fun hb => ?_) <;> (try simp only [decide_eq_true_eq, decide_eq_false_iff_not, Bool.not_eq_true, Bool.not_eq_false, beq_iff_eq, bne_iff_ne, ne_eq, Bool.not_eq_eq_eq_not, Bool.not_true, Bool.not_false, beq_eq_false_iff_ne, bne_eq_false_iff_eq] at hb) <;> first | refine wSkip 16 ?_ | refine wSkipU 16 ?_ | refine wMv 16 ?_))
      all_goals (first | refine wSkip 17 ?_ | refine wSkipU 17 ?_ | refine wCm 17 ?_ | (refine tr_guard (t := 29) rfl (fun hb => ?_) (fun hb => ?_) <;> (try simp only [decide_eq_true_eq, decide_eq_false_iff_not, Bool.not_eq_true, Bool.not_eq_false, beq_iff_eq, bne_iff_ne, ne_eq, Bool.not_eq_eq_eq_not, Bool.not_true, Bool.not_false, beq_eq_false_iff_ne, bne_eq_false_iff_eq] at hb) <;> first | refine wSkip 17 ?_ | refine wSkipU 17 ?_ | refine wCm 17 ?_))
      all_goals (first | refine wSkip 18 ?_ | refine wSkipU 18 ?_ | refine wMv 18 ?_ | (refine tr_guard (t := 29) rfl (fun hb => ?_) (fun hb => ?_) <;> (try simp only [decide_eq_true_eq, decide_eq_false_iff_not, Bool.not_eq_true, Bool.not_eq_false, beq_iff_eq, bne_iff_ne, ne_eq, Bool.not_eq_eq_eq_not, Bool.not_true, Bool.not_false, beq_eq_false_iff_ne, bne_eq_false_iff_eq] at hb) <;> first | refine wSkip 18 ?_ | refine wSkipU 18 ?_ | refine wMv 18 ?_))
      all_goals (first | refine wSkip 19 ?_ | refine wSkipU 19 ?_ | refine wFa 19 ?_ | (refine tr_guard (t := 32) rfl (fun hb => ?_) (fun hb => ?_) <;> (try simp only [decide_eq_true_eq, decide_eq_false_iff_not, Bool.not_eq_true, Bool.not_eq_false, beq_iff_eq, bne_iff_ne, ne_eq, Bool.not_eq_eq_eq_not, Bool.not_true, Bool.not_false, beq_eq_false_iff_ne, bne_eq_false_iff_eq] at hb) <;> first | refine wSkip 19 ?_ | refine wSkipU 19 ?_ | refine wFa 19 ?_))
      all_goals (first | refine wSkip 20 ?_ | refine wSkipU 20 ?_ | refine wLd 20 ?_ | (refine tr_guard (t := 32) rfl (fun hb => ?_) (fun hb => ?_) <;> (try simp only [decide_eq_true_eq, decide_eq_false_iff_not, Bool.not_eq_true, Bool.not_eq_false, beq_iff_eq, bne_iff_ne, ne_eq, Bool.not_eq_eq_eq_not, Bool.not_true, Bool.not_false, beq_eq_false_iff_ne, bne_eq_false_iff_eq] at hb) <;> first | refine wSkip 20 ?_ | refine wSkipU 20 ?_ | refine wLd 20 ?_))
      all_goals (first | refine wSkip 21 ?_ | refine wSkipU 21 ?_ | refine wBu 21 ?_ | (refine tr_guard (t := 32) rfl (fun hb => ?_) (fun hb => ?_) <;> (try simp only [decide_eq_true_eq, decide_eq_false_iff_not, Bool.not_eq_true, Bool.not_eq_false, beq_iff_eq, bne_iff_ne, ne_eq, Bool.not_eq_eq_eq_not, Bool.not_true, Bool.not_false, beq_eq_false_iff_ne, bne_eq_false_iff_eq] at hb) <;> first | refine wSkip 21 ?_ | refine wSkipU 21 ?_ | refine wBu 21 ?_))
      all_goals (first | refine wSkip 22 ?_ | refine wSkipU 22 ?_ | refine wCm 22 ?_ | (refine tr_guard (t := 32) rfl (fun hb => ?_) (fun hb => ?_) <;> (try simp only [decide_eq_true_eq, decide_eq_false_iff_not, Bool.not_eq_true, Bool.not_eq_false, beq_iff_eq, bne_iff_ne, ne_eq, Bool.not_eq_eq_eq_not, Bool.not_true, Bool.not_false, beq_eq_false_iff_ne, bne_eq_false_iff_eq] at hb) <;> first | refine wSkip 22 ?_ | refine wSkipU 22 ?_ | refine wCm 22 ?_))
      all_goals (first | refine wSkip 23 ?_ | refine wSkipU 23 ?_ | refine wPk 23 ?_ | (refine tr_guard (t := 29) rfl (fun hb => ?_) (fun hb => ?_) <;> (try simp only [decide_eq_true_eq, decide_eq_false_iff_not, Bool.not_eq_true, Bool.not_eq_false, beq_iff_eq, bne_iff_ne, ne_eq, Bool.not_eq_eq_eq_not, Bool.not_true, Bool.not_false, beq_eq_false_iff_ne, bne_eq_false_iff_eq] at hb) <;> first | refine wSkip 23 ?_ | refine wSkipU 23 ?_ | refine wPk 23 ?_))
      all_goals refine rPk 24 ?_
      all_goals refine rMv 25 ?_
      all_goals (first | refine wSkip 26 ?_ | refine wSkipU 26 ?_ | refine wMv 26 ?_ | (refine tr_guard (t := 39) rfl (fun hb => ?_) (fun hb => ?_) <;> (try simp only [decide_eq_true_eq, decide_eq_false_iff_not, Bool.not_eq_true, Bool.not_eq_false, beq_iff_eq, bne_iff_ne, ne_eq, Bool.not_eq_eq_eq_not, Bool.not_true, Bool.not_false, beq_eq_false_iff_ne, bne_eq_false_iff_eq] at hb) <;> first | refine wSkip 26 ?_ | refine wSkipU 26 ?_ | refine wMv 26 ?_))
      all_goals (first | refine wSkip 27 ?_ | refine wSkipU 27 ?_ | refine wCm 27 ?_ | (refine tr_guard (t := 39) rfl (fun hb => ?_) (fun hb => ?_) <;> (try simp only [decide_eq_true_eq, decide_eq_false_iff_not, Bool.not_eq_true, Bool.not_eq_false, beq_iff_eq, bne_iff_ne, ne_eq, Bool.not_eq_eq_eq_not, Bool.not_true, Bool.not_false, beq_eq_false_iff_ne, bne_eq_false_iff_eq] at hb) <;> first | refine wSkip 27 ?_ | refine wSkipU 27 ?_ | refine wCm 27 ?_))
      all_goals (first | refine wSkip 28 ?_ | refine wSkipU 28 ?_ | refine wMv 28 ?_ | (refine tr_guard (t := 39) rfl (fun hb => ?_) (fun hb => ?_) <;> (try simp only [decide_eq_true_eq, decide_eq_false_iff_not, Bool.not_eq_true, Bool.not_eq_false, beq_iff_eq, bne_iff_ne, ne_eq, Bool.not_eq_eq_eq_not, Bool.not_true, Bool.not_false, beq_eq_false_iff_ne, bne_eq_false_iff_eq] at hb) <;> first | refine wSkip 28 ?_ | refine wSkipU 28 ?_ | refine wMv 28 ?_))
      all_goals (first | refine wSkip 29 ?_ | refine wSkipU 29 ?_ | refine wMv 29 ?_ | (refine tr_guard (t := 42) rfl (fun hb => ?_) (fun hb => ?_) <;> (try simp only [decide_eq_true_eq, decide_eq_false_iff_not, Bool.not_eq_true, Bool.not_eq_false, beq_iff_eq, bne_iff_ne, ne_eq, Bool.not_eq_eq_eq_not, Bool.not_true, Bool.not_false, beq_eq_false_iff_ne, bne_eq_false_iff_eq] at hb) <;> first | refine wSkip 29 ?_ | refine wSkipU 29 ?_ | refine wMv 29 ?_))
      all_goals (first | refine wSkip 30 ?_ | refine wSkipU 30 ?_ | refine wMv 30 ?_ | (refine tr_guard (t := 42) rfl (fun hb => ?_) (fun hb => ?_) <;> (try simp only [decide_eq_true_eq, decide_eq_false_iff_not, Bool.not_eq_true, Bool.not_eq_false, beq_iff_eq, bne_iff_ne, ne_eq, Bool.not_eq_eq_eq_not, Bool.not_true, Bool.not_false, beq_eq_false_iff_ne, bne_eq_false_iff_eq] at hb) <;> first | refine wSkip 30 ?_ | refine wSkipU 30 ?_ | refine wMv 30 ?_))
      all_goals (first | refine wSkip 31 ?_ | refine wSkipU 31 ?_ | refine wSb 31 ?_ | (refine tr_guard (t := 42) rfl (fun hb => ?_) (fun hb => ?_) <;> (try simp only [decide_eq_true_eq, decide_eq_false_iff_not, Bool.not_eq_true, Bool.not_eq_false, beq_iff_eq, bne_iff_ne, ne_eq, Bool.not_eq_eq_eq_not, Bool.not_true, Bool.not_false, beq_eq_false_iff_ne, bne_eq_false_iff_eq] at hb) <;> first | refine wSkip 31 ?_ | refine wSkipU 31 ?_ | refine wSb 31 ?_))
      all_goals (first | refine wSkip 32 ?_ | refine wSkipU 32 ?_ | refine wIa 32 ?_ | (refine tr_guard (t := 42) rfl (fun hb => ?_) (fun hb => ?_) <;> (try simp only [decide_eq_true_eq, decide_eq_false_iff_not, Bool.not_eq_true, Bool.not_eq_false, beq_iff_eq, bne_iff_ne, ne_eq, Bool.not_eq_eq_eq_not, Bool.not_true, Bool.not_false, beq_eq_false_iff_ne, bne_eq_false_iff_eq] at hb) <;> first | refine wSkip 32 ?_ | refine wSkipU 32 ?_ | refine wIa 32 ?_))
      all_goals (first | refine wSkip 33 ?_ | refine wSkipU 33 ?_ | refine wFa 33 ?_ | (refine tr_guard (t := 42) rfl (fun hb => ?_) (fun hb => ?_) <;> (try simp only [decide_eq_true_eq, decide_eq_false_iff_not, Bool.not_eq_true, Bool.not_eq_false, beq_iff_eq, bne_iff_ne, ne_eq, Bool.not_eq_eq_eq_not, Bool.not_true, Bool.not_false, beq_eq_false_iff_ne, bne_eq_false_iff_eq] at hb) <;> first | refine wSkip 33 ?_ | refine wSkipU 33 ?_ | refine wFa 33 ?_))
      all_goals (first | refine wSkip 34 ?_ | refine wSkipU 34 ?_ | refine wLd 34 ?_ | (refine tr_guard (t := 42) rfl (fun hb => ?_) (fun hb => ?_) <;> (try simp only [decide_eq_true_eq, decide_eq_false_iff_not, Bool.not_eq_true, Bool.not_eq_false, beq_iff_eq, bne_iff_ne, ne_eq, Bool.not_eq_eq_eq_not, Bool.not_true, Bool.not_false, beq_eq_false_iff_ne, bne_eq_false_iff_eq] at hb) <;> first | refine wSkip 34 ?_ | refine wSkipU 34 ?_ | refine wLd 34 ?_))
      all_goals (first | refine wSkip 36 ?_ | refine wSkipU 36 ?_ | refine wFa 36 ?_ | (refine tr_guard (t := 42) rfl (fun hb => ?_) (fun hb => ?_) <;> (try simp only [decide_eq_true_eq, decide_eq_false_iff_not, Bool.not_eq_true, Bool.not_eq_false, beq_iff_eq, bne_iff_ne, ne_eq, Bool.not_eq_eq_eq_not, Bool.not_true, Bool.not_false, beq_eq_false_iff_ne, bne_eq_false_iff_eq] at hb) <;> first | refine wSkip 36 ?_ | refine wSkipU 36 ?_ | refine wFa 36 ?_))
      all_goals (first | refine wSkip 37 ?_ | refine wSkipU 37 ?_ | refine wLd 37 ?_ | (refine tr_guard (t := 42) rfl (fun hb => ?_) (fun hb => ?_) <;> (try simp only [decide_eq_true_eq, decide_eq_false_iff_not, Bool.not_eq_true, Bool.not_eq_false, beq_iff_eq, bne_iff_ne, ne_eq, Bool.not_eq_eq_eq_not, Bool.not_true, Bool.not_false, beq_eq_false_iff_ne, bne_eq_false_iff_eq] at hb) <;> first | refine wSkip 37 ?_ | refine wSkipU 37 ?_ | refine wLd 37 ?_))
      all_goals (first | refine wSkip 35 ?_ | refine wSkipU 35 ?_ | (refine rStep (i := 35) ?_; ((try refine qWant ?_); (first | (refine qEf ?_; try intro _)) <;> ((try simp only [List.cons_append, List.nil_append, List.append_eq]); refine tl_nil ?_; refine rNext ?_))))
      all_goals (first | refine wSkip 38 ?_ | refine wSkipU 38 ?_ | (refine rStep (i := 38) ?_; ((try refine qWant ?_); (first | (refine qEf ?_; try intro _)) <;> ((try simp only [List.cons_append, List.nil_append, List.append_eq]); refine tl_nil ?_; refine rNext ?_))))
      all_goals refine rFull ?_
      all_goals (first | refine wSkip 39 ?_ | refine wSkipU 39 ?_ | refine wCm 39 ?_ | (refine tr_guard (t := 42) rfl (fun hb => ?_) (fun hb => ?_) <;> (try simp only [decide_eq_true_eq, decide_eq_false_iff_not, Bool.not_eq_true, Bool.not_eq_false, beq_iff_eq, bne_iff_ne, ne_eq, Bool.not_eq_eq_eq_not, Bool.not_true, Bool.not_false, beq_eq_false_iff_ne, bne_eq_false_iff_eq] at hb) <;> first | refine wSkip 39 ?_ | refine wSkipU 39 ?_ | refine wCm 39 ?_))
      all_goals (first | refine wSkip 40 ?_ | refine wSkipU 40 ?_ | refine wPk 40 ?_ | (refine tr_guard (t := 39) rfl (fun hb => ?_) (fun hb => ?_) <;> (try simp only [decide_eq_true_eq, decide_eq_false_iff_not, Bool.not_eq_true, Bool.not_eq_false, beq_iff_eq, bne_iff_ne, ne_eq, Bool.not_eq_eq_eq_not, Bool.not_true, Bool.not_false, beq_eq_false_iff_ne, bne_eq_false_iff_eq] at hb) <;> first | refine wSkip 40 ?_ | refine wSkipU 40 ?_ | refine wPk 40 ?_))
      all_goals refine rPk 41 ?_
      all_goals refine rDone ?_
      repeat' (first | (refine i_op ?_; first | (refine i_qq ?_; refine qQ ?_) | refine qEf ?_) | refine tl_nil ?_ | (refine i_tc ?_; refine qTc ?_) | (refine i_te ?_; refine qTe ?_) | intro _)
      exact qE ⟨rfl, rfl, rfl⟩
  · have hk2 : k = n := by omega
    subst hk2
    rw [hok, Bool.and_true]
    by_cases h2 : 1 < k
    · by_cases h4 : k ≤ 4
      · rw [decide_eq_true h4, decide_eq_true h2]
        repeat' (first | (refine i_op ?_; first | (refine i_qq ?_; refine qQ ?_) | refine qEf ?_) | refine tl_nil ?_ | (refine i_tc ?_; refine qTc ?_) | (refine i_te ?_; refine qTe ?_) | intro _)
        exact qE ⟨rfl, rfl, rfl⟩
      · rw [decide_eq_false h4, Bool.and_false]
        repeat' (first | (refine i_op ?_; first | (refine i_qq ?_; refine qQ ?_) | refine qEf ?_) | refine tl_nil ?_ | (refine i_tc ?_; refine qTc ?_) | (refine i_te ?_; refine qTe ?_) | intro _)
        exact qE ⟨rfl, rfl, rfl⟩
    · rw [decide_eq_false h2, Bool.false_and]
      repeat' (first | (refine i_op ?_; first | (refine i_qq ?_; refine qQ ?_) | refine qEf ?_) | refine tl_nil ?_ | (refine i_tc ?_; refine qTc ?_) | (refine i_te ?_; refine qTe ?_) | intro _)
      exact qE ⟨rfl, rfl, rfl⟩
end Go.Proofs.E

namespace Go.Proofs.E
open Go
set_option linter.unusedVariables false
set_option linter.unusedSimpArgs false
set_option linter.unusedSectionVars false
set_option maxRecDepth 4000
set_option maxHeartbeats 1000000
attribute [local irreducible] Yl TL TC TE Spec YSpec R1 Hp.le EnvLe TS TR YS Stays
theorem right_spec (ρ : Hp) (v : CV) (c : Cont) (h : CIn ρ v c.rows c.kids) (hir : ∀ r ∈ c.rows, r.id < 65536) (hik : ∀ k ∈ c.kids, k.id < 65536) : Spec Try.prog 30 [.agg ⟨contV c.kind v⟩] ρ [] (fun r ρ' L' => r = .bool (contOk c) ∧ ρ' = ρ ∧ L' = []) := by
  obtain ⟨kind, rows, kids⟩ := c
  obtain ⟨ra, rn, rc, ka, kn, kc⟩ := v
  obtain ⟨hr, hk, hrb, hkb, hrc, hkc⟩ := h
  dsimp only at hr hk hrb hkb hrc hkc hir hik
  have hrl := hr.len
  have hkl := hk.len
  have hrs := rowsR_spec ρ ra rn rc rows hr hrb hir
  have hks := kidsR_spec ρ ka kn kc kids hk hkb hkc hik
  generalize hq : contOk ⟨kind, rows, kids⟩ = q
  unfold contOk at hq
  simp only [hrl, hkl] at hq
  refine spec_enter Try.func30 rfl rfl rfl fun u R => ?_
  simp only [argsE, List.cons_append, List.nil_append]
  by_cases k0 : kind = 0
  · rw [if_pos k0] at hq
    by_cases hz : rn = 0
    · by_cases hz2 : kn = 0
      · rw [decide_eq_true (show rn + kn = 0 by omega)] at hq
        subst hq
        repeat' (first | (refine i_op ?_; first | (refine i_qq ?_; refine qQ ?_) | refine qEf ?_) | refine tl_nil ?_ | (refine i_tc ?_; refine qTc ?_) | (refine i_te ?_; refine qTe ?_) | intro _)
        exact qE ⟨rfl, rfl, rfl⟩
      · rw [decide_eq_false (show ¬ rn + kn = 0 by omega)] at hq
        subst hq
        repeat' (first | (refine i_op ?_; first | (refine i_qq ?_; refine qQ ?_) | refine qEf ?_) | refine tl_nil ?_ | (refine i_tc ?_; refine qTc ?_) | (refine i_te ?_; refine qTe ?_) | intro _)
        exact qE ⟨rfl, rfl, rfl⟩
    · rw [decide_eq_false (show ¬ rn + kn = 0 by omega)] at hq
      subst hq
      repeat' (first | (refine i_op ?_; first | (refine i_qq ?_; refine qQ ?_) | refine qEf ?_) | refine tl_nil ?_ | (refine i_tc ?_; refine qTc ?_) | (refine i_te ?_; refine qTe ?_) | intro _)
      exact qE ⟨rfl, rfl, rfl⟩
  · rw [if_neg k0] at hq
    by_cases k1 : kind = 1
    · rw [if_pos k1] at hq
      by_cases hz : kn = 0
      · rw [decide_eq_true hz, Bool.true_and] at hq
        rw [hq] at hrs
        repeat' (first | (refine tl_is (.func 86) ?_; refine qC rfl rfl (hrs) ?_; rintro v ρ' L' hle ⟨rfl, rfl, rfl⟩ <;> (try simp only [List.cons_append, List.nil_append, List.append_eq])) | (refine i_op ?_; first | (refine i_qq ?_; refine qQ ?_) | refine qEf ?_) | refine tl_nil ?_ | (refine i_tc ?_; refine qTc ?_) | (refine i_te ?_; refine qTe ?_) | intro _)
        exact qE ⟨rfl, rfl, rfl⟩
      · rw [decide_eq_false hz, Bool.false_and] at hq
        subst hq
        repeat' (first | (refine i_op ?_; first | (refine i_qq ?_; refine qQ ?_) | refine qEf ?_) | refine tl_nil ?_ | (refine i_tc ?_; refine qTc ?_) | (refine i_te ?_; refine qTe ?_) | intro _)
        exact qE ⟨rfl, rfl, rfl⟩
    · rw [if_neg k1] at hq
      by_cases k2 : kind = 2
      · rw [if_pos k2] at hq
        by_cases hz : rn = 0
        · rw [decide_eq_true hz, Bool.true_and] at hq
          rw [hq] at hks
          repeat' (first | (refine tl_is (.func 87) ?_; refine qC rfl rfl (hks) ?_; rintro v ρ' L' hle ⟨rfl, rfl, rfl⟩ <;> (try simp only [List.cons_append, List.nil_append, List.append_eq])) | (refine i_op ?_; first | (refine i_qq ?_; refine qQ ?_) | refine qEf ?_) | refine tl_nil ?_ | (refine i_tc ?_; refine qTc ?_) | (refine i_te ?_; refine qTe ?_) | intro _)
          exact qE ⟨rfl, rfl, rfl⟩
        · rw [decide_eq_false hz, Bool.false_and] at hq
          subst hq
          repeat' (first | (refine i_op ?_; first | (refine i_qq ?_; refine qQ ?_) | refine qEf ?_) | refine tl_nil ?_ | (refine i_tc ?_; refine qTc ?_) | (refine i_te ?_; refine qTe ?_) | intro _)
          exact qE ⟨rfl, rfl, rfl⟩
      · rw [if_neg k2] at hq
        subst hq
        repeat' (first | (refine i_op ?_; first | (refine i_qq ?_; refine qQ ?_) | refine qEf ?_) | refine tl_nil ?_ | (refine i_tc ?_; refine qTc ?_) | (refine i_te ?_; refine qTe ?_) | intro _)
        exact qE ⟨rfl, rfl, rfl⟩
theorem keyR_spec (ρ : Hp) (t : Int) (id : Nat) (h0 : 0 ≤ t) (h3 : t < 256) (hid : id < 65536) :
    Spec Try.prog 92 [.agg ⟨keyV t id⟩] ρ [] (fun r ρ' L' => ρ' = ρ ∧ ∃ b, r = .slice (some ⟨b, 0, none⟩) 3 3 ∧ L' = [[(b, .cells ⟨(keyB t id).map u8c⟩ 5 (0, 0))]]) := by
  refine spec_enter Try.func92 rfl rfl rfl fun u R => ?_
  simp only [argsE, List.cons_append, List.nil_append]
  repeat' (first | (refine tl_buildSlice_s rfl rfl rfl rfl (by simp) rfl rfl (fun _ => ?_); simp only [tB_eq h0 h3, u8_wrap]) | (refine i_op ?_; first | (refine i_qq ?_; refine qQ ?_) | refine qEf ?_) | refine tl_nil ?_ | (refine i_tc ?_; refine qTc ?_) | (refine i_te ?_; refine qTe ?_) | intro _)
  have e : [u8c (tB t), Value.int .u8 ((id : Int) / 2 ^ 8), u8c (UInt8.ofNat id)] = (keyB t id).map u8c := by
    have e1 : (id : Int) / 2 ^ 8 = ((id / 256 : Nat) : Int) := by omega
    have e2 : Value.int .u8 ((id / 256 : Nat) : Int) = u8c (UInt8.ofNat (id / 256)) := by
      have := u8_wrap (id / 256)
      rwa [wrap_id (by simp only [lo, hi]; omega)] at this
    rw [e1, e2]
    simp [keyB, be]
  rw [e]
  exact qE ⟨rfl, _, rfl, rfl⟩
theorem shr_byte (V m : Nat) : Value.int .u8 (IntKind.u8.wrap ((V : Int) / 2 ^ (8 * m))) = u8c (UInt8.ofNat (V / 256 ^ m)) := by
  have h2 : (2 ^ (8 * m) : Nat) = 256 ^ m := by rw [Nat.pow_mul]
  have h3 : ((2 : Int) ^ (8 * m)) = ((2 ^ (8 * m) : Nat) : Int) := by rw [Int.natCast_pow]; rfl
  rw [h3, h2, ← Int.natCast_ediv, u8_wrap]
theorem be8_take_succ (V j : Nat) (hj : j < 8) : (be 8 V).take (j + 1) = (be 8 V).take j ++ [UInt8.ofNat (V / 256 ^ (7 - j))] := by
  rw [List.take_succ_eq_append_getElem (by rw [be_length]; exact hj)]
  congr 2
  rcases (show j = 0 ∨ j = 1 ∨ j = 2 ∨ j = 3 ∨ j = 4 ∨ j = 5 ∨ j = 6 ∨ j = 7 by omega) with rfl | rfl | rfl | rfl | rfl | rfl | rfl | rfl <;> rfl
theorem rowR6_spec (ρ : Hp) (r : Row) (hr : rowOk r = true) (hid : r.id < 65536) :
    Spec Try.prog 38 [.agg ⟨rowV r⟩] ρ [] (fun v ρ' L' => ρ.le ρ' ∧ ∃ sp, OwnS v (rowB r).length ((rowB r).map u8c) sp 1 ∧ L' = [ownC v ((rowB r).map u8c) sp 5]) := by
  obtain ⟨h0, h3, h8⟩ := rowOk_iff hr
  have hlb := lenB (n := r.note.length) (by omega)
  have hkl : (keyB r.t r.id).length = 3 := by simp [keyB, be_length]
  refine spec_enter Try.func38 rfl rfl rfl fun u R => ?_
  simp only [argsE, List.cons_append, List.nil_append]
  repeat' (first | (refine tl_is (.func 92) ?_; refine qC rfl rfl (keyR_spec _ r.t r.id h0 (by omega) hid) ?_; rintro v ρ' L' hle ⟨rfl, bk, rfl, rfl⟩ <;> (try simp only [List.cons_append, List.nil_append, List.append_eq])) | (refine i_op ?_; first | (refine i_qq ?_; refine qQ ?_) | refine qEf ?_) | refine tl_nil ?_ | (refine i_tc ?_; refine qTc ?_) | (refine i_te ?_; refine qTe ?_) | intro _)
  rename_i b1
  rw [show (keyB r.t r.id).map u8c = (keyB r.t r.id ++ (be 8 (vN r.val)).take 0).map u8c by simp, own_chunk bk 3 3]
  have hown0 : OwnS (.slice (some ⟨bk, 0, none⟩) 3 3) (3 + 0) ((keyB r.t r.id ++ (be 8 (vN r.val)).take 0).map u8c) [] 1 := ⟨.inr ⟨bk, 3, rfl, by simp [hkl], by simp [hkl], Nat.le_refl _⟩⟩
  generalize Value.slice (some ⟨bk, 0, none⟩) 3 3 = v0 at *
  refine tc_loop_g [(1, _), (2, _)] (fun (ζ : (Nat) × (Value) × (List Value)) => [(4, .int .i64 (7 - (ζ.1 : Int))), (3, ζ.2.1)]) (fun (ζ : (Nat) × (Value) × (List Value)) => ρ') (fun (ζ : (Nat) × (Value) × (List Value)) => [ownC ζ.2.1 ((keyB r.t r.id ++ (be 8 (vN r.val)).take ζ.1).map u8c) ζ.2.2 5]) (fun (ζ : (Nat) × (Value) × (List Value)) => ζ.1 ≤ 8 ∧ OwnS ζ.2.1 (3 + ζ.1) ((keyB r.t r.id ++ (be 8 (vN r.val)).take ζ.1).map u8c) ζ.2.2 1) (fun (ζ : (Nat) × (Value) × (List Value)) => 8 - ζ.1) ((0, v0, [])) (⟨Nat.zero_le _, hown0⟩) ev_le ev_le rfl tk ?_
  rintro ⟨j, v, sp⟩ hI
  try simp only [List.cons_append, List.nil_append, List.append_assoc, List.append_eq] at hI ⊢
  try dsimp only at hI ⊢
  obtain ⟨hj, hown⟩ := hI
  by_cases hj8 : j < 8
  · have hsh := shr_byte (vN r.val) (7 - j)
    have hts := be8_take_succ (vN r.val) j hj8
    have hxx : (keyB r.t r.id ++ (be 8 (vN r.val)).take j).map u8c ++ [u8c (UInt8.ofNat (vN r.val / 256 ^ (7 - j)))] = (keyB r.t r.id ++ (be 8 (vN r.val)).take (j + 1)).map u8c := by rw [hts]; simp
    repeat' (first | (refine iCv ?_; refine tl_y (y_conv (k := .u64) rfl) rfl rfl ?_; simp only [vN_eq]) | (refine iSr ?_; refine tl_y (y_shr (c := 8 * (7 - j)) rfl rfl (by omega) (by simp only [IntKind.bits]; omega)) rfl rfl ?_) | (refine iCv ?_; refine tl_y (y_conv (k := .u8) rfl) rfl rfl ?_; rw [hsh]) | (refine tl_buildSlice_s rfl rfl rfl rfl (by simp) rfl rfl (fun _ => ?_)) | (refine i_op ?_; first | (refine i_qq ?_; refine qQ ?_) | refine qEf ?_) | refine tl_nil ?_ | (refine i_tc ?_; refine qTc ?_) | (refine i_te ?_; refine qTe ?_) | intro _)
    refine tl_app (ys := [u8c (UInt8.ofNat (vN r.val / 256 ^ (7 - j)))]) (m := 1) rfl rfl hown (hR := by infer_instance) SrcV.lit rfl rfl (by decide) rfl (by omega) (by omega) rfl (fun v2 sp2 hown2 => ?_)
    rw [hxx] at hown2 ⊢
    repeat' (first | (refine i_op ?_; first | (refine i_qq ?_; refine qQ ?_) | refine qEf ?_) | refine tl_nil ?_ | (refine i_tc ?_; refine qTc ?_) | (refine i_te ?_; refine qTe ?_) | intro _)
    have e7 : (7 - (j : Int) - 1) = 7 - ((j + 1 : Nat) : Int) := by omega
    rw [e7]
    refine te_round_g (j + 1, v2, sp2) (⟨hj8, hown2⟩) ev_le ev_le rfl tk inferInstance (by first | omega | (dsimp only; omega))
  · obtain rfl : j = 8 := by omega
    have e8 : (be 8 (vN r.val)).take 8 = be 8 (vN r.val) := List.take_of_length_le (by rw [be_length]; exact Nat.le_refl _)
    rw [e8] at hown ⊢
    repeat' (first | (refine i_op ?_; first | (refine i_qq ?_; refine qQ ?_) | refine qEf ?_) | refine tl_nil ?_ | (refine i_tc ?_; refine qTc ?_) | (refine i_te ?_; refine qTe ?_) | intro _)
    refine tc_any (Stays _ _ ([[(b1, .cells ⟨rowV r⟩ 28 (0, 0))]])) (stays_of (Hp.le_refl _)) ?_
    all_goals refine rMv 0 ?_
    all_goals refine rFa 1 ?_
    all_goals refine rLd 2 ?_
    all_goals refine rBi 3 ?_
    all_goals refine rCv 4 ?_
    all_goals refine rFa 7 ?_
    all_goals refine rLd 8 ?_
    all_goals (refine rStep (i := 5) ?_; ((try refine qWant ?_); (first | (refine tl_buildSlice_s rfl rfl rfl rfl (by simp) rfl rfl (fun _ => ?_); simp only [hlb]) | (refine qEf ?_; try intro _)) <;> ((try simp only [List.cons_append, List.nil_append, List.append_eq]); refine tl_nil ?_; refine rNext ?_)))
    all_goals (refine rStep (i := 6) ?_; ((try refine qWant ?_); (first | (refine tl_app (ys := [u8c (UInt8.ofNat r.note.length)]) (m := 1) rfl rfl hown (hR := by infer_instance) SrcV.lit rfl rfl (by decide) rfl (by omega) (by omega) rfl (fun v4 sp4 hown4 => ?_)) | (refine tl_app_str (l := r.note) rfl rfl hown4 (hR := by infer_instance) (by omega) rfl (fun v5 sp5 hown5 => ?_)) | (refine qEf ?_; try intro _)) <;> ((try simp only [List.cons_append, List.nil_append, List.append_eq]); refine tl_nil ?_; refine rNext ?_)))
    all_goals (refine rStep (i := 9) ?_; ((try refine qWant ?_); (first | (refine tl_app (ys := [u8c (UInt8.ofNat r.note.length)]) (m := 1) rfl rfl hown (hR := by infer_instance) SrcV.lit rfl rfl (by decide) rfl (by omega) (by omega) rfl (fun v4 sp4 hown4 => ?_)) | (refine tl_app_str (l := r.note) rfl rfl hown4 (hR := by infer_instance) (by omega) rfl (fun v5 sp5 hown5 => ?_)) | (refine qEf ?_; try intro _)) <;> ((try simp only [List.cons_append, List.nil_append, List.append_eq]); refine tl_nil ?_; refine rNext ?_)))
    all_goals refine rFull ?_
    all_goals refine rAs 10 ?_
    all_goals refine rDone ?_
    have e : (keyB r.t r.id ++ be 8 (vN r.val)).map u8c ++ [u8c (UInt8.ofNat r.note.length)] ++ r.note.map u8c = (rowB r).map u8c := by simp [rowB]
    have e2 : 3 + 8 + 1 + r.note.length = (rowB r).length := by simp [rowB, hkl, be_length]; omega
    rw [e] at hown5 ⊢
    repeat' (first | (refine i_op ?_; first | (refine i_qq ?_; refine qQ ?_) | refine qEf ?_) | refine tl_nil ?_ | (refine i_tc ?_; refine qTc ?_) | (refine i_te ?_; refine qTe ?_) | intro _)
    rw [e2] at hown5
    exact qE ⟨Hp.le_refl _, sp5, hown5, rfl⟩
end Go.Proofs.E

namespace Go.Proofs.E
open Go
set_option linter.unusedVariables false
set_option linter.unusedSimpArgs false
set_option linter.unusedSectionVars false
set_option maxRecDepth 4000
set_option maxHeartbeats 1000000
attribute [local irreducible] Yl TL TC TE Spec YSpec R1 Hp.le EnvLe TS TR YS Stays
theorem bytesR_spec (ρ : Hp) (w : CV) (c : Cont) (h : CIn ρ w c.rows c.kids) (hok : contOk c = true) (hir : ∀ r ∈ c.rows, r.id < 65536) (hik : ∀ k ∈ c.kids, k.id < 65536) :
    Spec Try.prog 34 [.agg ⟨contV c.kind w⟩] ρ [] (fun v ρ' L' => ρ.le ρ' ∧ ∃ a n c', v = .slice a n c' ∧ n ≤ c' ∧ SIn ρ' u8c a n (contB c) ∧ L' = []) := by
  obtain ⟨hkind, hrl, hkl, hrow, hkid⟩ := contOk_facts hok
  obtain ⟨kind, rows, kids⟩ := c
  obtain ⟨ra, rn, rc, ka, kn, kc⟩ := w
  obtain ⟨hr, hk, hrb, hkb, hrc, hkc⟩ := h
  dsimp only at hkind hrc hkc hr hk hrb hkb hrow hkid hrl hkl hir hik ⊢
  have hrn := hr.len
  have hkn := hk.len
  have hcr := lenB (n := rn) (by omega)
  have hck := lenB (n := kn) (by omega)
  have hkB := tB_eq (t := kind) (by omega) (by omega)
  refine spec_enter Try.func34 rfl rfl rfl fun u R => ?_
  simp only [argsE, List.cons_append, List.nil_append]
  dsimp only [contV]
  repeat' (first | (refine tl_buildSlice_s rfl rfl rfl rfl (by simp) rfl rfl (fun _ => ?_); simp only [hkB]) | (refine i_op ?_; first | (refine i_qq ?_; refine qQ ?_) | refine qEf ?_) | refine tl_nil ?_ | (refine i_tc ?_; refine qTc ?_) | (refine i_te ?_; refine qTe ?_) | intro _)
  rename_i b1 b2
  rw [show ([(b2, Obj.cells ⟨[u8c (tB kind)]⟩ 5 (0, 0))] : List (Nat × Obj)) = ownC (.slice (some ⟨b2, 0, none⟩) 1 1) ([tB kind].map u8c) [] 5 from rfl]
  have hown0 : OwnS (.slice (some ⟨b2, 0, none⟩) 1 1) 1 ([tB kind].map u8c) [] 1 := ⟨.inr ⟨b2, 1, rfl, rfl, rfl, Nat.le_refl _⟩⟩
  generalize Value.slice (some ⟨b2, 0, none⟩) 1 1 = v0 at *
  rcases hkind with ⟨rfl, rfl, rfl⟩ | ⟨rfl, rfl⟩ | ⟨rfl, rfl, hk1⟩
  · repeat' (first | (refine i_op ?_; first | (refine i_qq ?_; refine qQ ?_) | refine qEf ?_) | refine tl_nil ?_ | (refine i_tc ?_; refine qTc ?_) | (refine i_te ?_; refine qTe ?_) | intro _)
    refine te_freeze _ (h := Rem.here) (fun ρ6 hle6 hfz => ?_)
    obtain ⟨a6, c6, rfl, hc6, hs6⟩ := hown0.sIn hfz
    exact qE ⟨hle6, a6, _, c6, rfl, hc6, hs6, rfl⟩
  · have hX : ∀ B0, [tB 1] ++ [UInt8.ofNat rn] = B0 → B0.length = 2 := fun B0 e => by rw [← e]; rfl
    repeat' (first | (refine tl_buildSlice_s rfl rfl rfl rfl (by simp) rfl rfl (fun _ => ?_); simp only [hcr]) | (refine tl_app (ys := [u8c (UInt8.ofNat rn)]) (m := 1) rfl rfl hown0 (hR := by infer_instance) SrcV.lit rfl rfl (by decide) rfl (by omega) (by omega) rfl (fun v1 sp1 hown1 => ?_); rw [show [tB 1].map u8c ++ [u8c (UInt8.ofNat rn)] = (([tB 1] ++ [UInt8.ofNat rn]) ++ (rows.take 0).flatMap rowB).map u8c by simp] at hown1 ⊢) | (refine i_op ?_; first | (refine i_qq ?_; refine qQ ?_) | refine qEf ?_) | refine tl_nil ?_ | (refine i_tc ?_; refine qTc ?_) | (refine i_te ?_; refine qTe ?_) | intro _)
    generalize hB0 : [tB 1] ++ [UInt8.ofNat rn] = B0 at *
    have hBl := hX _ rfl
    clear hX
    refine tc_loop_g [(1, _), (2, _), (13, _), (24, _), (25, _)] (fun (ζ : (Nat) × (Hp) × (Value) × (List Value)) => [(26, .int .i64 ζ.1), (3, ζ.2.2.1)]) (fun (ζ : (Nat) × (Hp) × (Value) × (List Value)) => ζ.2.1) (fun (ζ : (Nat) × (Hp) × (Value) × (List Value)) => [ownC ζ.2.2.1 ((B0 ++ (rows.take ζ.1).flatMap rowB).map u8c) ζ.2.2.2 5, [(b1, .cells ⟨[.int .i64 1, .slice ra rn rc, .slice ka kn kc]⟩ 38 (0, 0))]]) (fun (ζ : (Nat) × (Hp) × (Value) × (List Value)) => ζ.1 ≤ rn ∧ ρ.le ζ.2.1 ∧ OwnS ζ.2.2.1 (B0 ++ (rows.take ζ.1).flatMap rowB).length ((B0 ++ (rows.take ζ.1).flatMap rowB).map u8c) ζ.2.2.2 1) (fun (ζ : (Nat) × (Hp) × (Value) × (List Value)) => rn - ζ.1) ((0, ρ, v1, sp1)) (⟨Nat.zero_le _, Hp.le_refl _, by simpa [hBl] using hown1⟩) ev_le ev_le rfl tk ?_
    rintro ⟨k, ρ1, v, sp⟩ hI
    try simp only [List.cons_append, List.nil_append, List.append_assoc, List.append_eq] at hI ⊢
    try dsimp only at hI ⊢
    obtain ⟨hkn0, hle1, hown⟩ := hI
    by_cases hlt : k < rn
    · obtain ⟨b, off, C, T, fr, rfl, hb, hfit, hc⟩ := (hr.mono hle1).get (show k < rows.length by omega)
      have hmem : rows[k]'(by omega) ∈ rows := List.getElem_mem _
      have hro := hrow _ hmem
      have hid := hir _ hmem
      have hts := flatMap_take_succ rowB rows k (by omega)
      have hfl := flatMap_le rowB 20 (rows.take k) (fun x hx => rowB_le (hrow x (List.mem_of_mem_take hx)))
      have htl : (rows.take k).length ≤ 4 := by simp; omega
      have hXl : (B0 ++ (rows.take k).flatMap rowB).length ≤ 100 := by simp only [List.length_append]; omega
      have hll : (B0 ++ (rows.take k).flatMap rowB).length + (rowB (rows[k]'(by omega))).length = (B0 ++ (rows.take (k + 1)).flatMap rowB).length := by rw [hts]; simp; omega
      have hmm : B0 ++ (rows.take k).flatMap rowB ++ rowB (rows[k]'(by omega)) = B0 ++ (rows.take (k + 1)).flatMap rowB := by rw [hts]; simp
      have hrb20 := rowB_le hro
      generalize rows[k]'(by omega) = x at *
      repeat' (first | (refine tl_is (.func 38) ?_; refine qC rfl rfl (rowR6_spec _ x hro hid) ?_; rintro v2 ρ2 L2 hle0 ⟨hle2, sp2, hown2, rfl⟩; simp only [List.cons_append, List.nil_append]; refine tl_freeze _ (h := Rem.here) (fun ρ3 hle3 hfz => ?_); obtain ⟨a3, c3, rfl, hc3, hs3⟩ := hown2.sIn hfz) | (refine tl_app (ys := (rowB x).map u8c) (m := (rowB x).length) rfl rfl hown (hR := by infer_instance) (SIn.srcV hs3) (by simp) (u8c_one _) (by decide) rfl (by omega) (by omega) rfl (fun v5 sp5 hown5 => ?_); rw [← List.map_append, hmm] at hown5 ⊢; rw [hll] at hown5) | (refine i_op ?_; first | (refine i_qq ?_; refine qQ ?_) | refine qEf ?_) | refine tl_nil ?_ | (refine i_tc ?_; refine qTc ?_) | (refine i_te ?_; refine qTe ?_) | intro _)
      refine te_round_g (k + 1, _, v5, sp5) (⟨hlt, Hp.le_trans hle1 (Hp.le_trans hle2 hle3), hown5⟩) ev_le ev_le rfl tk inferInstance (by first | omega | (dsimp only; omega))
    · have hk2 : k = rn := by omega
      subst hk2
      rw [List.take_of_length_le (by omega)] at hown ⊢
      have hfin : B0 ++ rows.flatMap rowB = contB ⟨1, rows, []⟩ := by rw [← hB0]; simp [contB, cntB, hrn]
      rw [hfin] at hown ⊢
      repeat' (first | (refine i_op ?_; first | (refine i_qq ?_; refine qQ ?_) | refine qEf ?_) | refine tl_nil ?_ | (refine i_tc ?_; refine qTc ?_) | (refine i_te ?_; refine qTe ?_) | intro _)
      refine te_freeze _ (h := Rem.here) (fun ρ6 hle6 hfz => ?_)
      obtain ⟨a6, c6, rfl, hc6, hs6⟩ := hown.sIn hfz
      exact qE ⟨Hp.le_trans hle1 hle6, a6, _, c6, rfl, hc6, hs6, rfl⟩
  · have hX : ∀ B0, [tB 2] ++ [UInt8.ofNat kn] = B0 → B0.length = 2 := fun B0 e => by rw [← e]; rfl
    repeat' (first | (refine tl_buildSlice_s rfl rfl rfl rfl (by simp) rfl rfl (fun _ => ?_); simp only [hck]) | (refine tl_app (ys := [u8c (UInt8.ofNat kn)]) (m := 1) rfl rfl hown0 (hR := by infer_instance) SrcV.lit rfl rfl (by decide) rfl (by omega) (by omega) rfl (fun v1 sp1 hown1 => ?_); rw [show [tB 2].map u8c ++ [u8c (UInt8.ofNat kn)] = (([tB 2] ++ [UInt8.ofNat kn]) ++ (kids.take 0).flatMap kidB).map u8c by simp] at hown1 ⊢) | (refine i_op ?_; first | (refine i_qq ?_; refine qQ ?_) | refine qEf ?_) | refine tl_nil ?_ | (refine i_tc ?_; refine qTc ?_) | (refine i_te ?_; refine qTe ?_) | intro _)
    generalize hB0 : [tB 2] ++ [UInt8.ofNat kn] = B0 at *
    have hBl := hX _ rfl
    clear hX
    refine tc_loop_g [(2, _), (45, _), (46, _)] (fun (ζ : (Nat) × (Value) × (List Value)) => [(47, .int .i64 ζ.1), (3, ζ.2.1)]) (fun (ζ : (Nat) × (Value) × (List Value)) => ρ) (fun (ζ : (Nat) × (Value) × (List Value)) => [ownC ζ.2.1 ((B0 ++ (kids.take ζ.1).flatMap kidB).map u8c) ζ.2.2 5]) (fun (ζ : (Nat) × (Value) × (List Value)) => ζ.1 ≤ kn ∧ OwnS ζ.2.1 (B0 ++ (kids.take ζ.1).flatMap kidB).length ((B0 ++ (kids.take ζ.1).flatMap kidB).map u8c) ζ.2.2 1) (fun (ζ : (Nat) × (Value) × (List Value)) => kn - ζ.1) ((0, v1, sp1)) (⟨Nat.zero_le _, by simpa [hBl] using hown1⟩) ev_le ev_le rfl tk ?_
    rintro ⟨j, v, sp⟩ hI
    try simp only [List.cons_append, List.nil_append, List.append_assoc, List.append_eq] at hI ⊢
    try dsimp only at hI ⊢
    obtain ⟨hj0, hown⟩ := hI
    by_cases hlj : j < kn
    · obtain ⟨b, off, C, T, fr, rfl, hb, hfit, hc⟩ := hk.get (show j < kids.length by omega)
      have hmem : kids[j]'(by omega) ∈ kids := List.getElem_mem _
      have hko := hkid _ hmem
      have hid := hik _ hmem
      have hts := flatMap_take_succ kidB kids j (by omega)
      have hfk := flatMap_le kidB 4 (kids.take j) (fun x hx => Nat.le_of_eq (kidB_len x))
      have htl : (kids.take j).length ≤ 4 := by simp; omega
      have hXl : (B0 ++ (kids.take j).flatMap kidB).length ≤ 200 := by simp only [List.length_append]; omega
      have hmm : B0 ++ (kids.take j).flatMap kidB ++ keyB (kids[j]'(by omega)).t (kids[j]'(by omega)).id ++ [tB (kids[j]'(by omega)).page] = B0 ++ (kids.take (j + 1)).flatMap kidB := by rw [hts]; simp [kidB]
      have hll : (B0 ++ (kids.take j).flatMap kidB).length + 3 + 1 = (B0 ++ (kids.take (j + 1)).flatMap kidB).length := by rw [hts]; simp [kidB_len]; omega
      have hpg := tB_eq (t := (kids[j]'(by omega)).page) (by omega) (by omega)
      generalize kids[j]'(by omega) = x at *
      generalize hX : B0 ++ (kids.take j).flatMap kidB = X at *
      have hkl : (keyB x.t x.id).length = 3 := by simp [keyB, be_length]
      repeat' (first | (refine i_op ?_; first | (refine i_qq ?_; refine qQ ?_) | refine qEf ?_) | refine tl_nil ?_ | (refine i_tc ?_; refine qTc ?_) | (refine i_te ?_; refine qTe ?_) | intro _)
      rename_i b9
      refine tc_any (Stays _ _ ([[(b9, .cells ⟨kidV x⟩ 134 (0, 0))]])) (stays_of (Hp.le_refl _)) ?_
      all_goals refine rMv 0 ?_
      all_goals refine rFa 1 ?_
      all_goals refine rLd 2 ?_
      all_goals refine rFa 5 ?_
      all_goals refine rLd 6 ?_
      all_goals refine rCv 7 ?_
      all_goals (refine rStep2 (i := 3) (j := 8) ?_ ?_ <;> ((try refine qWant ?_); (first | (refine tl_is (.func 92) ?_; refine qC rfl rfl (keyR_spec _ x.t x.id hko.1.1 (by omega) hid) ?_; rintro v ρ' L' hle ⟨rfl, bk, rfl, rfl⟩ <;> (try simp only [List.cons_append, List.nil_append, List.append_eq])) | (refine tl_buildSlice_s rfl rfl rfl rfl (by simp) rfl rfl (fun _ => ?_); simp only [hpg]) | (refine qEf ?_; try intro _)) <;> ((try simp only [List.cons_append, List.nil_append, List.append_eq]); refine tl_nil ?_; refine rNext ?_)))
      all_goals (first | (refine rStep2 (i := 4) (j := 8) ?_ ?_ <;> ((try refine qWant ?_); (first | (refine tl_buildSlice_s rfl rfl rfl rfl (by simp) rfl rfl (fun _ => ?_); simp only [hpg]) | (refine tl_app (ys := (keyB x.t x.id).map u8c) (m := 3) rfl rfl hown (hR := by infer_instance) (SrcV.find (l := (keyB x.t x.id).map u8c) (T := 5) (fr := (0, 0)) (n := 3) (by rw [List.drop_zero]; exact List.take_of_length_le (by simp [hkl]))) (by simp [hkl]) (u8c_one _) (by decide) rfl (by omega) (by omega) rfl (fun v4 sp4 hown4 => ?_)) | (refine tl_app (ys := [u8c (tB x.page)]) (m := 1) rfl rfl hown4 (hR := by infer_instance) SrcV.lit rfl rfl (by decide) rfl (by omega) (by omega) rfl (fun v5 sp5 hown5 => ?_); rw [show X.map u8c ++ (keyB x.t x.id).map u8c ++ [u8c (tB x.page)] = (X ++ keyB x.t x.id ++ [tB x.page]).map u8c by simp, hmm] at hown5 ⊢; rw [hll] at hown5) | (refine qEf ?_; try intro _)) <;> ((try simp only [List.cons_append, List.nil_append, List.append_eq]); refine tl_nil ?_; refine rNext ?_))) | (refine rStep (i := 3) ?_; ((try refine qWant ?_); (first | (refine tl_is (.func 92) ?_; refine qC rfl rfl (keyR_spec _ x.t x.id hko.1.1 (by omega) hid) ?_; rintro v ρ' L' hle ⟨rfl, bk, rfl, rfl⟩ <;> (try simp only [List.cons_append, List.nil_append, List.append_eq])) | (refine qEf ?_; try intro _)) <;> ((try simp only [List.cons_append, List.nil_append, List.append_eq]); refine tl_nil ?_; refine rNext ?_))))
      all_goals (first | (refine rStep (i := 8) ?_; ((try refine qWant ?_); (first | (refine tl_buildSlice_s rfl rfl rfl rfl (by simp) rfl rfl (fun _ => ?_); simp only [hpg]) | (refine qEf ?_; try intro _)) <;> ((try simp only [List.cons_append, List.nil_append, List.append_eq]); refine tl_nil ?_; refine rNext ?_))) | (refine rStep (i := 4) ?_; ((try refine qWant ?_); (first | (refine tl_app (ys := (keyB x.t x.id).map u8c) (m := 3) rfl rfl hown (hR := by infer_instance) (SrcV.find (l := (keyB x.t x.id).map u8c) (T := 5) (fr := (0, 0)) (n := 3) (by rw [List.drop_zero]; exact List.take_of_length_le (by simp [hkl]))) (by simp [hkl]) (u8c_one _) (by decide) rfl (by omega) (by omega) rfl (fun v4 sp4 hown4 => ?_)) | (refine tl_app (ys := [u8c (tB x.page)]) (m := 1) rfl rfl hown4 (hR := by infer_instance) SrcV.lit rfl rfl (by decide) rfl (by omega) (by omega) rfl (fun v5 sp5 hown5 => ?_); rw [show X.map u8c ++ (keyB x.t x.id).map u8c ++ [u8c (tB x.page)] = (X ++ keyB x.t x.id ++ [tB x.page]).map u8c by simp, hmm] at hown5 ⊢; rw [hll] at hown5) | (refine qEf ?_; try intro _)) <;> ((try simp only [List.cons_append, List.nil_append, List.append_eq]); refine tl_nil ?_; refine rNext ?_))))
      all_goals (refine rStep (i := 9) ?_; ((try refine qWant ?_); (first | (refine tl_app (ys := (keyB x.t x.id).map u8c) (m := 3) rfl rfl hown (hR := by infer_instance) (SrcV.find (l := (keyB x.t x.id).map u8c) (T := 5) (fr := (0, 0)) (n := 3) (by rw [List.drop_zero]; exact List.take_of_length_le (by simp [hkl]))) (by simp [hkl]) (u8c_one _) (by decide) rfl (by omega) (by omega) rfl (fun v4 sp4 hown4 => ?_)) | (refine tl_app (ys := [u8c (tB x.page)]) (m := 1) rfl rfl hown4 (hR := by infer_instance) SrcV.lit rfl rfl (by decide) rfl (by omega) (by omega) rfl (fun v5 sp5 hown5 => ?_); rw [show X.map u8c ++ (keyB x.t x.id).map u8c ++ [u8c (tB x.page)] = (X ++ keyB x.t x.id ++ [tB x.page]).map u8c by simp, hmm] at hown5 ⊢; rw [hll] at hown5) | (refine qEf ?_; try intro _)) <;> ((try simp only [List.cons_append, List.nil_append, List.append_eq]); refine tl_nil ?_; refine rNext ?_)))
      all_goals refine rFull ?_
      all_goals refine rAs 10 ?_
      all_goals refine rDone ?_
      all_goals (repeat' (first | (refine i_op ?_; first | (refine i_qq ?_; refine qQ ?_) | refine qEf ?_) | refine tl_nil ?_ | (refine i_tc ?_; refine qTc ?_) | (refine i_te ?_; refine qTe ?_) | intro _))
      all_goals refine te_round_g (j + 1, v5, sp5) (⟨hlj, hown5⟩) ev_le ev_le rfl tk inferInstance (by first | omega | (dsimp only; omega))
    · have hj2 : j = kn := by omega
      subst hj2
      rw [List.take_of_length_le (by omega)] at hown ⊢
      have hfin : B0 ++ kids.flatMap kidB = contB ⟨2, [], kids⟩ := by rw [← hB0]; simp [contB, cntB, hkn]
      rw [hfin] at hown ⊢
      repeat' (first | (refine i_op ?_; first | (refine i_qq ?_; refine qQ ?_) | refine qEf ?_) | refine tl_nil ?_ | (refine i_tc ?_; refine qTc ?_) | (refine i_te ?_; refine qTe ?_) | intro _)
      refine te_freeze _ (h := Rem.here) (fun ρ6 hle6 hfz => ?_)
      obtain ⟨a6, c6, rfl, hc6, hs6⟩ := hown.sIn hfz
      exact qE ⟨hle6, a6, _, c6, rfl, hc6, hs6, rfl⟩
end Go.Proofs.E

namespace Go.Proofs.E
open Go
set_option linter.unusedVariables false
set_option linter.unusedSimpArgs false
set_option linter.unusedSectionVars false
set_option maxRecDepth 4000
set_option maxHeartbeats 1000000
attribute [local irreducible] Yl TL TC TE Spec YSpec R1 Hp.le EnvLe TS TR YS Stays
theorem sameR_spec (ρ : Hp) (w w' : CV) (c d : Cont) (h : CIn ρ w c.rows c.kids) (h' : CIn ρ w' d.rows d.kids) :
    Spec Try.prog 33 [.agg ⟨contV c.kind w⟩, .agg ⟨contV d.kind w'⟩] ρ [] (fun v ρ' L' => v = .bool (decide (c = d)) ∧ ρ' = ρ ∧ L' = []) := by
  obtain ⟨kind, rows, kids⟩ := c
  obtain ⟨kind', rows', kids'⟩ := d
  obtain ⟨ra, rn, rc, ka, kn, kc⟩ := w
  obtain ⟨ra', rn', rc', ka', kn', kc'⟩ := w'
  obtain ⟨hr, hk, hrb, hkb, hrc, hkc⟩ := h
  obtain ⟨hr', hk', hrb', hkb', hrc', hkc'⟩ := h'
  dsimp only at hrc hkc hr hk hrb hkb hrc' hkc' hr' hk' hrb' hkb' ⊢
  have hrn := hr.len
  have hkn := hk.len
  have hrn' := hr'.len
  have hkn' := hk'.len
  simp only [Cont.mk.injEq]
  refine spec_enter Try.func33 rfl rfl rfl fun u R => ?_
  simp only [argsE, List.cons_append, List.nil_append, contV]
  by_cases h1 : kind = kind'
  · by_cases h2 : rn = rn'
    · by_cases h3 : kn = kn'
      · subst h1; subst h2; subst h3
        repeat' (first | (refine i_op ?_; first | (refine i_qq ?_; refine qQ ?_) | refine qEf ?_) | refine tl_nil ?_ | (refine i_tc ?_; refine qTc ?_) | (refine i_te ?_; refine qTe ?_) | intro _)
        rename_i b1 b2
        refine tc_loop_g [(2, _), (3, _), (4, _), (32, _)] (fun (ζ : (Nat)) => [(33, .int .i64 ζ)]) (fun (ζ : (Nat)) => ρ) (fun (ζ : (Nat)) => [[(b2, .cells ⟨[.int .i64 kind, .slice ra' rn rc', .slice ka' kn kc']⟩ 38 (0, 0))], [(b1, .cells ⟨[.int .i64 kind, .slice ra rn rc, .slice ka kn kc]⟩ 38 (0, 0))]]) (fun (ζ : (Nat)) => ζ ≤ rn ∧ rows.take ζ = rows'.take ζ) (fun (ζ : (Nat)) => rn - ζ) (0) (⟨Nat.zero_le _, rfl⟩) ev_le ev_le rfl tk ?_
        rintro k hI
        try simp only [List.cons_append, List.nil_append, List.append_assoc, List.append_eq] at hI ⊢
        try dsimp only at hI ⊢
        obtain ⟨hk0, hpre⟩ := hI
        by_cases hlt : k < rn
        · obtain ⟨b, off, C, T, fr, rfl, hb, hfit, hc⟩ := hr.get (show k < rows.length by omega)
          obtain ⟨b', off', C', T', fr', rfl, hb', hfit', hc'⟩ := hr'.get (show k < rows'.length by omega)
          have ht1 := List.take_succ_eq_append_getElem (show k < rows.length by omega)
          have ht2 := List.take_succ_eq_append_getElem (show k < rows'.length by omega)
          have hf : rows = rows' → rows[k]'(by omega) = rows'[k]'(by omega) := fun e => by subst e; rfl
          generalize rows[k]'(by omega) = x at *
          generalize rows'[k]'(by omega) = y at *
          by_cases he : x = y
          · have hd : decide (x = y) = true := decide_eq_true he
            repeat' (first | (refine i_op ?_; first | (refine i_qq ?_; refine qQ ?_) | refine qEf ?_) | refine tl_nil ?_ | (refine i_tc ?_; refine qTc ?_) | (refine i_te ?_; refine qTe ?_) | intro _)
            refine tc_any (Stays _ _ ([[(b2, .cells ⟨[.int .i64 kind, .slice (some ⟨b', off', none⟩) rn rc', .slice ka' kn kc']⟩ 38 (0, 0))], [(b1, .cells ⟨[.int .i64 kind, .slice (some ⟨b, off, none⟩) rn rc, .slice ka kn kc]⟩ 38 (0, 0))]])) (stays_of (Hp.le_refl _)) ?_
            all_goals refine rFa 0 ?_
            all_goals refine rFull ?_
            all_goals refine rLd 1 ?_
            all_goals refine rMv 2 ?_
            all_goals refine rIa 3 ?_
            all_goals refine rLd 4 ?_
            all_goals refine rFa 5 ?_
            all_goals refine rLd 6 ?_
            all_goals refine rMv 7 ?_
            all_goals refine rIa 8 ?_
            all_goals refine rLd 9 ?_
            all_goals refine rCm 10 ?_
            all_goals refine rDone ?_
            repeat' (first | (refine i_op ?_; first | (refine i_qq ?_; refine qQ ?_) | refine qEf ?_) | refine tl_nil ?_ | (refine i_tc ?_; refine qTc ?_) | (refine i_te ?_; refine qTe ?_) | intro _)
            refine te_round_g (k + 1) (⟨hlt, by rw [ht1, ht2, hpre, he]⟩) ev_le ev_le rfl tk inferInstance (by first | omega | (dsimp only; omega))
          · have hd : decide (x = y) = false := decide_eq_false he
            rw [decide_eq_false (fun e => he (hf e.2.1))]
            repeat' (first | (refine i_op ?_; first | (refine i_qq ?_; refine qQ ?_) | refine qEf ?_) | refine tl_nil ?_ | (refine i_tc ?_; refine qTc ?_) | (refine i_te ?_; refine qTe ?_) | intro _)
            refine tc_any (Stays _ _ ([[(b2, .cells ⟨[.int .i64 kind, .slice (some ⟨b', off', none⟩) rn rc', .slice ka' kn kc']⟩ 38 (0, 0))], [(b1, .cells ⟨[.int .i64 kind, .slice (some ⟨b, off, none⟩) rn rc, .slice ka kn kc]⟩ 38 (0, 0))]])) (stays_of (Hp.le_refl _)) ?_
            all_goals refine rFa 0 ?_
            all_goals refine rFull ?_
            all_goals refine rLd 1 ?_
            all_goals refine rMv 2 ?_
            all_goals refine rIa 3 ?_
            all_goals refine rLd 4 ?_
            all_goals refine rFa 5 ?_
            all_goals refine rLd 6 ?_
            all_goals refine rMv 7 ?_
            all_goals refine rIa 8 ?_
            all_goals refine rLd 9 ?_
            all_goals refine rCm 10 ?_
            all_goals refine rDone ?_
            repeat' (first | (refine i_op ?_; first | (refine i_qq ?_; refine qQ ?_) | refine qEf ?_) | refine tl_nil ?_ | (refine i_tc ?_; refine qTc ?_) | (refine i_te ?_; refine qTe ?_) | intro _)
            exact qE ⟨rfl, rfl, rfl⟩
        · have hk2 : k = rn := by omega
          subst hk2
          rw [List.take_of_length_le (by omega), List.take_of_length_le (by omega)] at hpre
          subst hpre
          repeat' (first | (refine i_op ?_; first | (refine i_qq ?_; refine qQ ?_) | refine qEf ?_) | refine tl_nil ?_ | (refine i_tc ?_; refine qTc ?_) | (refine i_te ?_; refine qTe ?_) | intro _)
          refine tc_loop_g [(2, _), (3, _), (4, _), (50, _)] (fun (ζ : (Nat)) => [(51, .int .i64 ζ)]) (fun (ζ : (Nat)) => ρ) (fun (ζ : (Nat)) => [[(b2, .cells ⟨[.int .i64 kind, .slice ra' k rc', .slice ka' kn kc']⟩ 38 (0, 0))], [(b1, .cells ⟨[.int .i64 kind, .slice ra k rc, .slice ka kn kc]⟩ 38 (0, 0))]]) (fun (ζ : (Nat)) => ζ ≤ kn ∧ kids.take ζ = kids'.take ζ) (fun (ζ : (Nat)) => kn - ζ) (0) (⟨Nat.zero_le _, rfl⟩) ev_le ev_le rfl tk ?_
          rintro j hI
          try simp only [List.cons_append, List.nil_append, List.append_assoc, List.append_eq] at hI ⊢
          try dsimp only at hI ⊢
          obtain ⟨hj0, hpre⟩ := hI
          by_cases hlj : j < kn
          · obtain ⟨b, off, C, T, fr, rfl, hb, hfit, hc⟩ := hk.get (show j < kids.length by omega)
            obtain ⟨b', off', C', T', fr', rfl, hb', hfit', hc'⟩ := hk'.get (show j < kids'.length by omega)
            have ht1 := List.take_succ_eq_append_getElem (show j < kids.length by omega)
            have ht2 := List.take_succ_eq_append_getElem (show j < kids'.length by omega)
            have hf : kids = kids' → kids[j]'(by omega) = kids'[j]'(by omega) := fun e => by subst e; rfl
            generalize kids[j]'(by omega) = x at *
            generalize kids'[j]'(by omega) = y at *
            by_cases he : x = y
            · have hd : decide (x = y) = true := decide_eq_true he
              repeat' (first | (refine i_op ?_; first | (refine i_qq ?_; refine qQ ?_) | refine qEf ?_) | refine tl_nil ?_ | (refine i_tc ?_; refine qTc ?_) | (refine i_te ?_; refine qTe ?_) | intro _)
              refine tc_any (Stays _ _ ([[(b2, .cells ⟨[.int .i64 kind, .slice ra' k rc', .slice (some ⟨b', off', none⟩) kn kc']⟩ 38 (0, 0))], [(b1, .cells ⟨[.int .i64 kind, .slice ra k rc, .slice (some ⟨b, off, none⟩) kn kc]⟩ 38 (0, 0))]])) (stays_of (Hp.le_refl _)) ?_
              all_goals refine rFa 0 ?_
              all_goals refine rFull ?_
              all_goals refine rLd 1 ?_
              all_goals refine rMv 2 ?_
              all_goals refine rIa 3 ?_
              all_goals refine rLd 4 ?_
              all_goals refine rFa 5 ?_
              all_goals refine rLd 6 ?_
              all_goals refine rMv 7 ?_
              all_goals refine rIa 8 ?_
              all_goals refine rLd 9 ?_
              all_goals refine rCm 10 ?_
              all_goals refine rDone ?_
              repeat' (first | (refine i_op ?_; first | (refine i_qq ?_; refine qQ ?_) | refine qEf ?_) | refine tl_nil ?_ | (refine i_tc ?_; refine qTc ?_) | (refine i_te ?_; refine qTe ?_) | intro _)
              refine te_round_g (j + 1) (⟨hlj, by rw [ht1, ht2, hpre, he]⟩) ev_le ev_le rfl tk inferInstance (by first | omega | (dsimp only; omega))
            · have hd : decide (x = y) = false := decide_eq_false he
              rw [decide_eq_false (fun e => he (hf e.2.2))]
              repeat' (first | (refine i_op ?_; first | (refine i_qq ?_; refine qQ ?_) | refine qEf ?_) | refine tl_nil ?_ | (refine i_tc ?_; refine qTc ?_) | (refine i_te ?_; refine qTe ?_) | intro _)
              refine tc_any (Stays _ _ ([[(b2, .cells ⟨[.int .i64 kind, .slice ra' k rc', .slice (some ⟨b', off', none⟩) kn kc']⟩ 38 (0, 0))], [(b1, .cells ⟨[.int .i64 kind, .slice ra k rc, .slice (some ⟨b, off, none⟩) kn kc]⟩ 38 (0, 0))]])) (stays_of (Hp.le_refl _)) ?_
              all_goals refine rFa 0 ?_
              all_goals refine rFull ?_
              all_goals refine rLd 1 ?_
              all_goals refine rMv 2 ?_
              all_goals refine rIa 3 ?_
              all_goals refine rLd 4 ?_
              all_goals refine rFa 5 ?_
              all_goals refine rLd 6 ?_
              all_goals refine rMv 7 ?_
              all_goals refine rIa 8 ?_
              all_goals refine rLd 9 ?_
              all_goals refine rCm 10 ?_
              all_goals refine rDone ?_
              repeat' (first | (refine i_op ?_; first | (refine i_qq ?_; refine qQ ?_) | refine qEf ?_) | refine tl_nil ?_ | (refine i_tc ?_; refine qTc ?_) | (refine i_te ?_; refine qTe ?_) | intro _)
              exact qE ⟨rfl, rfl, rfl⟩
          · have hj2 : j = kn := by omega
            subst hj2
            rw [List.take_of_length_le (by omega), List.take_of_length_le (by omega)] at hpre
            subst hpre
            rw [decide_eq_true ⟨trivial, trivial, rfl⟩]
            repeat' (first | (refine i_op ?_; first | (refine i_qq ?_; refine qQ ?_) | refine qEf ?_) | refine tl_nil ?_ | (refine i_tc ?_; refine qTc ?_) | (refine i_te ?_; refine qTe ?_) | intro _)
            exact qE ⟨rfl, rfl, rfl⟩
      · rw [decide_eq_false (fun e => h3 (by rw [← hkn, ← hkn', e.2.2]))]
        repeat' (first | (refine i_op ?_; first | (refine i_qq ?_; refine qQ ?_) | refine qEf ?_) | refine tl_nil ?_ | (refine i_tc ?_; refine qTc ?_) | (refine i_te ?_; refine qTe ?_) | intro _)
        exact qE ⟨rfl, rfl, rfl⟩
    · rw [decide_eq_false (fun e => h2 (by rw [← hrn, ← hrn', e.2.1]))]
      repeat' (first | (refine i_op ?_; first | (refine i_qq ?_; refine qQ ?_) | refine qEf ?_) | refine tl_nil ?_ | (refine i_tc ?_; refine qTc ?_) | (refine i_te ?_; refine qTe ?_) | intro _)
      exact qE ⟨rfl, rfl, rfl⟩
  · rw [decide_eq_false (fun e => h1 e.1)]
    repeat' (first | (refine i_op ?_; first | (refine i_qq ?_; refine qQ ?_) | refine qEf ?_) | refine tl_nil ?_ | (refine i_tc ?_; refine qTc ?_) | (refine i_te ?_; refine qTe ?_) | intro _)
    exact qE ⟨rfl, rfl, rfl⟩
end Go.Proofs.E

