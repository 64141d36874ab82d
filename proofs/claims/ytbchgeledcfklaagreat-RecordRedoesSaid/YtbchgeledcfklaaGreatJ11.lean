/- Records of layer 12 as data, their bytes, what their functions come to, and which of them may be. Part 11 of 18. -/
import Derived.Test.YtbchgeledcfklaaGreatJ10
namespace Go.Proofs.E
open Go
set_option linter.unusedVariables false
set_option linter.unusedSimpArgs false
set_option linter.unusedSectionVars false
set_option maxRecDepth 4000
set_option maxHeartbeats 1000000
attribute [local irreducible] Yl TL TC TE Spec YSpec R1 Hp.le EnvLe TS TR YS Stays
/-! ## record: what bytes say, as data -/
def rdN (k : Nat) (s : RS3) : Nat × RS3 := ((numR k s.1 s.2.1).1, (numR k s.1 s.2.1).2.1, (numR k s.1 s.2.1).2.2, s.2.2)
def okS (s : RS3) : Bool := !s.2.2 && decide (s.2.1 = 0)
def skipS (n : Int) (s : RS3) : RS3 := ((rawR n.toNat s.1 s.2.1).2.1, (rawR n.toNat s.1 s.2.1).2.2, s.2.2)
def tkT {α : Type} (t : List UInt8 → α × Int × Int) (z : α) (s : RS3) : α × RS3 := if okS s then (if (t s.1).2.2 = 0 then ((t s.1).1, skipS (t s.1).2.1 s) else (z, s.1, s.2.1, true)) else (z, s)
abbrev ztC : Cont := ⟨0, [], []⟩
abbrev ztR : Row := ⟨0, 0, 0, []⟩
abbrev nilCV : CV := ⟨none, 0, 0, none, 0, 0⟩
def imDb (two : Bool) (s : RS3) : Cont × RS3 := if two then tkT takeContR ztC s else (ztC, s)
def imDa (two : Bool) (p : Nat) (s : RS3) : Im × RS3 := (⟨p, nilCV, (imDb two s).1, nilCV, (tkT takeContR ztC (imDb two s).2).1⟩, (tkT takeContR ztC (imDb two s).2).2)
def imD (two : Bool) (s : RS3) : Im × RS3 := imDa two (rdN 1 s).1 (rdN 1 s).2
def stpDr (k : Nat) (s : RS3) : Stp × RS3 := (⟨k, (tkT takeRowR ztR s).1, 0⟩, (tkT takeRowR ztR s).2)
def stpDb (k t i : Nat) (s : RS3) : Stp × RS3 := if k = 1 then (⟨k, ⟨t, i, 0, []⟩, i64N (rdN 8 s).1⟩, (rdN 8 s).2) else (⟨k, ⟨t, i, 0, []⟩, 0⟩, s)
def stpDi (k t : Nat) (s : RS3) : Stp × RS3 := stpDb k t (rdN 2 s).1 (rdN 2 s).2
def stpDt (k : Nat) (s : RS3) : Stp × RS3 := if k = 2 ∨ k = 3 then stpDr k s else stpDi k (rdN 1 s).1 (rdN 1 s).2
def stpD (s : RS3) : Stp × RS3 := stpDt (rdN 1 s).1 (rdN 1 s).2
def ckTe (t f l u : Nat) (s : RS3) : CkT × RS3 := (⟨t, f, l, u, (rdN 1 s).1⟩, (rdN 1 s).2)
def ckTu (t f l : Nat) (s : RS3) : CkT × RS3 := ckTe t f l (rdN 8 s).1 (rdN 8 s).2
def ckTl (t f : Nat) (s : RS3) : CkT × RS3 := ckTu t f (rdN 8 s).1 (rdN 8 s).2
def ckTf (t : Nat) (s : RS3) : CkT × RS3 := ckTl t (rdN 8 s).1 (rdN 8 s).2
def ckTD (s : RS3) : CkT × RS3 := ckTf (rdN 4 s).1 (rdN 4 s).2
def ckPr (p : Nat) (s : RS3) : CkP × RS3 := (⟨p, (rdN 8 s).1⟩, (rdN 8 s).2)
def ckPD (s : RS3) : CkP × RS3 := ckPr (rdN 1 s).1 (rdN 1 s).2
def manyS {α : Type} (f : RS3 → α × RS3) : Nat → RS3 → List α × RS3
  | 0, s => ([], s)
  | n + 1, s => if okS s then ((f s).1 :: (manyS f n (f s).2).1, (manyS f n (f s).2).2) else ([], s)
def manyD {α : Type} (f : RS3 → α × RS3) (s : RS3) : List α × RS3 := manyS f (rdN 1 s).1 (rdN 1 s).2
def hdP (k l t : Nat) (s : RS3) : Rc × RS3 := (⟨k, l, t, (rdN 8 s).1, 0, [], [], 0, [], []⟩, (rdN 8 s).2)
def hdT (k l : Nat) (s : RS3) : Rc × RS3 := hdP k l (rdN 4 s).1 (rdN 4 s).2
def hdL (k : Nat) (s : RS3) : Rc × RS3 := hdT k (rdN 8 s).1 (rdN 8 s).2
def headD (s : RS3) : Rc × RS3 := hdL (rdN 1 s).1 (rdN 1 s).2
def chD (r : Rc) (s : RS3) : Rc × RS3 := ({ r with ims := (manyD (imD (decide (r.kind = 2))) s).1 }, (manyD (imD (decide (r.kind = 2))) s).2)
def neD (r : Rc) (s : RS3) : Rc × RS3 := ({ r with next := (rdN 8 s).1 }, (rdN 8 s).2)
def doD (r : Rc) (s : RS3) : Rc × RS3 := ({ r with steps := (manyD stpD s).1 }, (manyD stpD s).2)
def cxD (r : Rc) (s : RS3) : Rc × RS3 := ({ r with nextTxn := (rdN 4 s).1 }, (rdN 4 s).2)
def ctD (r : Rc) (s : RS3) : Rc × RS3 := ({ r with txns := (manyD ckTD s).1 }, (manyD ckTD s).2)
def cdD (r : Rc) (s : RS3) : Rc × RS3 := ({ r with dirty := (manyD ckPD s).1 }, (manyD ckPD s).2)
abbrev thenD (f g : Rc → RS3 → Rc × RS3) (r : Rc) (s : RS3) : Rc × RS3 := g (f r s).1 (f r s).2
def tailD (r : Rc) (s : RS3) : Rc × RS3 :=
  if r.kind = 2 then chD r s else if r.kind = 3 then neD r s else if r.kind = 4 then thenD neD doD r s else if r.kind = 5 then thenD neD chD r s
  else if r.kind = 9 then thenD (thenD cxD ctD) cdD r s else (r, s)
def decD (l : List UInt8) : Rc × RS3 := tailD (headD (l, 0, false)).1 (headD (l, 0, false)).2
def decOk (l : List UInt8) : Bool := okS (decD l).2 && (decide ((decD l).2.1.length = 0) && recOk (decD l).1)
def zeroRc : Rc := ⟨0, 0, 0, 0, 0, [], [], 0, [], []⟩
def decR (l : List UInt8) : Rc := if decOk l then (decD l).1 else zeroRc
/-! ## forth and back -/
abbrev FwB {α : Type} (f : RS3 → α × RS3) (enc : α → List UInt8) (x : α) : Prop := ∀ rest, f (enc x ++ rest, 0, false) = (x, rest, 0, false)
abbrev BkB {α : Type} (f : RS3 → α × RS3) (enc : α → List UInt8) (fit : α → Prop) : Prop := ∀ {s : RS3} {x : α} {l' : List UInt8}, f s = (x, l', 0, false) → s = (enc x ++ l', 0, false) ∧ fit x
theorem rdN_fw {k x : Nat} (h : x < 256 ^ k) (rest : List UInt8) : rdN k (be k x ++ rest, 0, false) = (x, rest, 0, false) := by
  unfold rdN
  simp only [numR_app (be_length k x), unbe_be, Nat.mod_eq_of_lt h]
theorem rdN_bk {k : Nat} {s : RS3} {x : Nat} {l' : List UInt8} (h : rdN k s = (x, l', 0, false)) : s = (be k x ++ l', 0, false) ∧ x < 256 ^ k := by
  obtain ⟨l, st, bad⟩ := s
  unfold rdN at h
  simp only [Prod.mk.injEq] at h
  obtain ⟨h1, h2, h3, h4⟩ := h
  have hb := numR_lt k l st
  obtain ⟨rfl, hl, e⟩ := numR_zero h3
  rw [e] at h1 h2 hb
  dsimp only at h1 h2 hb
  subst h1 h2 h4
  exact ⟨by rw [be_take hl, List.take_append_drop], hb⟩
theorem tkC_fw {c : Cont} (h : contOk c = true) (hf : IdFit c) (rest : List UInt8) : tkT takeContR ztC (contB c ++ rest, 0, false) = (c, rest, 0, false) := by
  unfold tkT
  rw [if_pos (show okS (contB c ++ rest, 0, false) = true from rfl)]
  simp only [takeCont_back h hf rest, if_true, skipS, Int.toNat_natCast]
  unfold rawR
  rw [if_neg (by simp), if_neg (by simp), List.drop_left' rfl]
theorem tkR_fw {c : Row} (h : rowOk c = true) (hf : RowFit c) (rest : List UInt8) : tkT takeRowR ztR (rowB c ++ rest, 0, false) = (c, rest, 0, false) := by
  unfold tkT
  rw [if_pos (show okS (rowB c ++ rest, 0, false) = true from rfl)]
  simp only [takeRow_back h hf rest, if_true, skipS, Int.toNat_natCast]
  unfold rawR
  rw [if_neg (by simp), if_neg (by simp), List.drop_left' rfl]
theorem skipS_bk {n : Nat} {s : RS3} {l' : List UInt8} (hn : n ≤ s.1.length) (h : skipS n s = (l', 0, false)) : s = (s.1.take n ++ l', 0, false) := by
  obtain ⟨l, st, bad⟩ := s
  unfold skipS at h
  simp only [Prod.mk.injEq, Int.toNat_natCast] at h
  obtain ⟨h2, h3, h4⟩ := h
  obtain ⟨rfl, hl, e⟩ := rawR_zero h3
  rw [e] at h2
  dsimp only at h2
  subst h2 h4
  dsimp only
  rw [List.take_append_drop]
theorem tkC_bk : BkB (tkT takeContR ztC) contB (fun c => contOk c = true ∧ ContFit c) := by
  intro s x l' h
  unfold tkT at h
  split at h
  · split at h
    · rename_i h0
      obtain ⟨n, e1, hn, g1, g2, g3⟩ := takeCont_ok h0
      simp only [Prod.mk.injEq] at h
      obtain ⟨h1, h2⟩ := h
      rw [e1] at h2
      subst h1
      refine ⟨?_, g1, g3⟩
      rw [g2]
      exact skipS_bk hn h2
    · simp only [Prod.mk.injEq] at h
      exact absurd h.2.2.2 (by decide)
  · rename_i h0
    simp only [Prod.mk.injEq] at h
    rw [h.2] at h0
    exact absurd rfl h0
theorem tkR_bk : BkB (tkT takeRowR ztR) rowB (fun c => rowOk c = true ∧ RowFit c) := by
  intro s x l' h
  unfold tkT at h
  split at h
  · split at h
    · rename_i h0
      obtain ⟨n, e1, hn, g1, g2, g3⟩ := takeRow_ok h0
      simp only [Prod.mk.injEq] at h
      obtain ⟨h1, h2⟩ := h
      rw [e1] at h2
      subst h1
      refine ⟨?_, g1, g3⟩
      rw [g2]
      exact skipS_bk hn h2
    · simp only [Prod.mk.injEq] at h
      exact absurd h.2.2.2 (by decide)
  · rename_i h0
    simp only [Prod.mk.injEq] at h
    rw [h.2] at h0
    exact absurd rfl h0
theorem manyS_fw {α : Type} {f : RS3 → α × RS3} {enc : α → List UInt8} : ∀ (xs : List α), (∀ x ∈ xs, FwB f enc x) → ∀ rest, manyS f xs.length (xs.flatMap enc ++ rest, 0, false) = (xs, rest, 0, false)
  | [], _, rest => rfl
  | x :: xs, h, rest => by
    rw [List.length_cons, manyS, if_pos (by rfl), List.flatMap_cons, List.append_assoc, h x (by simp)]
    simp only [manyS_fw xs (fun y hy => h y (by simp [hy])) rest]
theorem manyS_bk {α : Type} {f : RS3 → α × RS3} {enc : α → List UInt8} {fit : α → Prop} (hf : BkB f enc fit) : ∀ {n : Nat} {s : RS3} {xs : List α} {l' : List UInt8}, manyS f n s = (xs, l', 0, false) → s = (xs.flatMap enc ++ l', 0, false) ∧ xs.length = n ∧ ∀ x ∈ xs, fit x
  | 0, s, xs, l', h => by
    rw [manyS] at h
    simp only [Prod.mk.injEq] at h
    obtain ⟨rfl, rfl⟩ := h
    exact ⟨rfl, rfl, by simp⟩
  | n + 1, s, xs, l', h => by
    rw [manyS] at h
    split at h
    · simp only [Prod.mk.injEq] at h
      obtain ⟨rfl, h2⟩ := h
      obtain ⟨g1, g2, g3⟩ := manyS_bk hf (n := n) (s := (f s).2) (xs := (manyS f n (f s).2).1) (l' := l') (by rw [← h2])
      obtain ⟨k1, k2⟩ := hf (s := s) (x := (f s).1) (l' := (manyS f n (f s).2).1.flatMap enc ++ l') (by rw [← g1])
      refine ⟨?_, by simp [g2], ?_⟩
      · rw [List.flatMap_cons, List.append_assoc]; exact k1
      · intro y hy
        rcases List.mem_cons.1 hy with rfl | hy
        · exact k2
        · exact g3 y hy
    · rename_i h0
      simp only [Prod.mk.injEq] at h
      rw [h.2] at h0
      exact absurd (by rfl) h0
theorem len_byte {n : Nat} (h : n ≤ 255) : [UInt8.ofNat n] = be 1 n := (be_one n).symm
theorem manyD_fw {α : Type} {f : RS3 → α × RS3} {enc : α → List UInt8} {xs : List α} (hl : xs.length ≤ 255) (h : ∀ x ∈ xs, FwB f enc x) : FwB (manyD f) (listB enc) xs := by
  intro rest
  unfold manyD listB
  have e : (UInt8.ofNat xs.length :: xs.flatMap enc) ++ rest = be 1 xs.length ++ (xs.flatMap enc ++ rest) := by rw [be_one]; simp
  rw [e, rdN_fw (by omega)]
  exact manyS_fw xs h rest
theorem manyD_bk {α : Type} {f : RS3 → α × RS3} {enc : α → List UInt8} {fit : α → Prop} (hf : BkB f enc fit) : BkB (manyD f) (listB enc) (fun xs => xs.length ≤ 255 ∧ ∀ x ∈ xs, fit x) := by
  intro s xs l' h
  unfold manyD at h
  obtain ⟨g1, g2, g3⟩ := manyS_bk hf h
  obtain ⟨k1, k2⟩ := rdN_bk (s := s) (k := 1) (x := (rdN 1 s).1) (l' := xs.flatMap enc ++ l') (by rw [← g1])
  refine ⟨?_, by omega, g3⟩
  rw [k1, ← g2, be_one]
  simp [listB]
end Go.Proofs.E

namespace Go.Proofs.E
open Go
set_option linter.unusedVariables false
set_option linter.unusedSimpArgs false
set_option linter.unusedSectionVars false
set_option maxRecDepth 4000
set_option maxHeartbeats 1000000
attribute [local irreducible] Yl TL TC TE Spec YSpec R1 Hp.le EnvLe TS TR YS Stays
abbrev Im.plain (x : Im) : Im := ⟨x.page, nilCV, x.b, nilCV, x.a⟩
abbrev Rc.plain (r : Rc) : Rc := { r with ims := r.ims.map Im.plain }
theorem imD_fw {two : Bool} {x : Im} (hp : 0 ≤ x.page ∧ x.page < 64) (ha : contOk x.a = true) (hb : contOk x.b = true) (fa : IdFit x.a) (fb : IdFit x.b) (h0 : two = false → x.b = ztC) : FwB (imD two) (imB two) x.plain := by
  intro rest
  have e : imB two x.plain ++ rest = be 1 x.page.toNat ++ ((if two then contB x.b else []) ++ (contB x.a ++ rest)) := by
    rw [be_one]; simp [imB, tB]
  unfold imD
  rw [e, rdN_fw (by omega)]
  unfold imDa
  have e2 : imDb two ((if two then contB x.b else []) ++ (contB x.a ++ rest), 0, false) = (x.b, contB x.a ++ rest, 0, false) := by
    unfold imDb
    cases two
    · rw [h0 rfl]; rfl
    · simp only [if_true]; exact tkC_fw hb fb _
  simp only [e2, tkC_fw ha fa rest, Prod.mk.injEq, and_true]
  have : ((x.page.toNat : Nat) : Int) = x.page := by omega
  rw [this]
structure ImP (two : Bool) (x : Im) : Prop where
  eq : x = x.plain
  page : 0 ≤ x.page
  a : contOk x.a = true ∧ ContFit x.a
  b : two = true → contOk x.b = true ∧ ContFit x.b
  z : two = false → x.b = ztC
theorem imD_bk {two : Bool} : BkB (imD two) (imB two) (ImP two) := by
  intro s x l' h
  unfold imD imDa at h
  simp only [Prod.mk.injEq] at h
  obtain ⟨h1, h2⟩ := h
  obtain ⟨a1, a2⟩ := tkC_bk (s := (imDb two (rdN 1 s).2).2) (x := (tkT takeContR ztC (imDb two (rdN 1 s).2).2).1) (l' := l') (by rw [← h2])
  have hb : (rdN 1 s).2 = ((if two then contB (imDb two (rdN 1 s).2).1 else []) ++ (contB (tkT takeContR ztC (imDb two (rdN 1 s).2).2).1 ++ l'), 0, false) ∧ (two = true → contOk (imDb two (rdN 1 s).2).1 = true ∧ ContFit (imDb two (rdN 1 s).2).1) ∧ (two = false → (imDb two (rdN 1 s).2).1 = ztC) := by
    generalize (tkT takeContR ztC (imDb two (rdN 1 s).2).2).1 = ca at *
    unfold imDb at a1 ⊢
    cases two
    · exact ⟨by simpa using a1, by simp, fun _ => rfl⟩
    · simp only [if_true] at a1 ⊢
      obtain ⟨b1, b2⟩ := tkC_bk (s := (rdN 1 s).2) (x := (tkT takeContR ztC (rdN 1 s).2).1) (l' := contB ca ++ l') (by rw [← a1])
      exact ⟨b1, fun _ => b2, by simp⟩
  obtain ⟨hb1, hb2, hb3⟩ := hb
  obtain ⟨p1, p2⟩ := rdN_bk (k := 1) (s := s) (x := (rdN 1 s).1) (by rw [← hb1])
  generalize (tkT takeContR ztC (imDb two (rdN 1 s).2).2).1 = ca at *
  generalize (imDb two (rdN 1 s).2).1 = cb at *
  generalize (rdN 1 s).1 = p at *
  subst h1
  refine ⟨?_, ⟨rfl, by dsimp only; omega, a2, hb2, hb3⟩⟩
  rw [p1, be_one]
  simp [imB, tB]
structure StpF (s : Stp) : Prop where
  row : RowFit s.row
  by' : i64in s.by'
theorem stpD_fw {s : Stp} (hs : stepOk s = true) (hf : StpF s) : FwB stpD stpB s := by
  intro rest
  obtain ⟨k, ⟨t, id, val, note⟩, b⟩ := s
  obtain ⟨⟨hid, hval⟩, hby⟩ := hf
  dsimp only at hid hval hby
  have hk : k = 1 ∨ k = 2 ∨ k = 3 ∨ k = 4 := by
    unfold stepOk at hs
    dsimp only at hs
    by_cases h1 : k = 1 <;> by_cases h2 : k = 2 <;> by_cases h3 : k = 3 <;> by_cases h4 : k = 4 <;> simp_all
  have hlead : ∀ X, stpD (tB k :: X, 0, false) = stpDt k.toNat (X, 0, false) := fun X => by
    unfold stpD
    have e : tB k :: X = be 1 k.toNat ++ X := by rw [be_one]; rfl
    rw [e, rdN_fw (by omega)]
  unfold stpB
  rw [List.cons_append, hlead]
  have hkk : ((k.toNat : Nat) : Int) = k := by omega
  by_cases h23 : k = 2 ∨ k = 3
  · have hok : b = 0 ∧ rowOk ⟨t, id, val, note⟩ = true := by
      unfold stepOk at hs
      dsimp only at hs
      rw [if_neg (by omega), if_neg (by omega), if_pos h23, Bool.and_eq_true, decide_eq_true_eq] at hs
      exact hs
    rw [if_pos h23]
    unfold stpDt stpDr
    rw [if_pos (by omega), tkR_fw hok.2 ⟨hid, hval⟩]
    simp only [hkk, hok.1]
  · rw [if_neg h23]
    have hon : onlyOk ⟨k, ⟨t, id, val, note⟩, b⟩ = true ∧ (k ≠ 1 → b = 0) := by
      unfold stepOk at hs
      dsimp only at hs
      by_cases h1 : k = 1
      · rw [if_pos h1] at hs; exact ⟨hs, fun h => absurd h1 h⟩
      · rw [if_neg h1, if_pos (by omega), Bool.and_eq_true, decide_eq_true_eq] at hs
        exact ⟨hs.1, fun _ => hs.2⟩
    obtain ⟨hon, hb0⟩ := hon
    unfold onlyOk at hon
    rw [Bool.and_eq_true, decide_eq_true_eq, decide_eq_true_eq] at hon
    obtain ⟨⟨g1, g2⟩, g3, g4⟩ := hon
    dsimp only at g1 g2 g3 g4
    subst g1 g2
    unfold stpDt
    rw [if_neg (by omega)]
    have e : tB t :: (be 2 id ++ (if k = 1 then be 8 (vN b) else [])) ++ rest = be 1 t.toNat ++ (be 2 id ++ ((if k = 1 then be 8 (vN b) else []) ++ rest)) := by rw [be_one]; simp [tB]
    dsimp only
    rw [e, rdN_fw (by omega)]
    unfold stpDi
    rw [rdN_fw (by omega)]
    unfold stpDb
    have htt : ((t.toNat : Nat) : Int) = t := by omega
    by_cases h1 : k = 1
    · rw [if_pos h1, if_pos (by omega), rdN_fw (by have := vN_lt b; omega)]
      simp only [hkk, htt, i64N_vN hby]
    · rw [if_neg h1, if_neg (by omega)]
      simp only [hkk, htt, hb0 h1, List.nil_append]
theorem stpD_bk : BkB stpD stpB StpF := by
  intro s x l' h
  unfold stpD at h
  have main : ∀ (k : Nat) (s : RS3), k < 256 → stpDt k s = (x, l', 0, false) → x.kind = k ∧ StpF x ∧ s = ((if x.kind = 2 ∨ x.kind = 3 then rowB x.row else tB x.row.t :: (be 2 x.row.id ++ (if x.kind = 1 then be 8 (vN x.by') else []))) ++ l', 0, false) := by
    intro k s hk h
    unfold stpDt at h
    split at h
    · rename_i h23
      unfold stpDr at h
      simp only [Prod.mk.injEq] at h
      obtain ⟨rfl, h2⟩ := h
      obtain ⟨k1, k2⟩ := tkR_bk (s := s) (x := (tkT takeRowR ztR s).1) (l' := l') (by rw [← h2])
      refine ⟨rfl, ⟨k2.2, by dsimp only; omega⟩, ?_⟩
      dsimp only
      rw [if_pos (by omega)]
      exact k1
    · rename_i h23
      unfold stpDi stpDb at h
      split at h
      · rename_i h1
        simp only [Prod.mk.injEq] at h
        obtain ⟨rfl, h2⟩ := h
        obtain ⟨k1, k2⟩ := rdN_bk (k := 8) (s := (rdN 2 (rdN 1 s).2).2) (x := (rdN 8 (rdN 2 (rdN 1 s).2).2).1) (l' := l') (by rw [← h2])
        obtain ⟨m1, m2⟩ := rdN_bk (k := 2) (s := (rdN 1 s).2) (x := (rdN 2 (rdN 1 s).2).1) (by rw [← k1])
        obtain ⟨n1, n2⟩ := rdN_bk (k := 1) (s := s) (x := (rdN 1 s).1) (by rw [← m1])
        refine ⟨rfl, ⟨⟨by dsimp only; omega, by dsimp only; omega⟩, i64N_fit _⟩, ?_⟩
        dsimp only
        rw [if_neg (by omega), if_pos (by omega), vN_i64N (by omega)]
        refine n1.trans ?_
        simp [be_one, tB]
      · rename_i h1
        simp only [Prod.mk.injEq] at h
        obtain ⟨rfl, h2⟩ := h
        obtain ⟨m1, m2⟩ := rdN_bk (k := 2) (s := (rdN 1 s).2) (x := (rdN 2 (rdN 1 s).2).1) (l' := l') (by rw [← h2])
        obtain ⟨n1, n2⟩ := rdN_bk (k := 1) (s := s) (x := (rdN 1 s).1) (by rw [← m1])
        refine ⟨rfl, ⟨⟨by dsimp only; omega, by dsimp only; omega⟩, by dsimp only; omega⟩, ?_⟩
        dsimp only
        rw [if_neg (by omega), if_neg (by omega)]
        refine n1.trans ?_
        simp [be_one, tB]
  have hlt : (rdN 1 s).1 < 256 := by
    have := numR_lt 1 s.1 s.2.1
    simpa [rdN] using this
  obtain ⟨g1, g2, g3⟩ := main _ _ hlt h
  obtain ⟨n1, n2⟩ := rdN_bk (k := 1) (s := s) (x := (rdN 1 s).1) (by rw [← g3])
  refine ⟨?_, g2⟩
  rw [n1]
  unfold stpB
  rw [show tB x.kind = UInt8.ofNat (rdN 1 s).1 by rw [g1]; rfl]
  simp [be_one]
structure CkTF (t : CkT) : Prop where
  txn : 0 ≤ t.txn ∧ t.txn < 4294967296
  first : t.first < 18446744073709551616
  last : t.last < 18446744073709551616
  undo : t.undo < 18446744073709551616
  state : 0 ≤ t.state ∧ t.state < 256
theorem ckTD_fw {t : CkT} (h : CkTF t) : FwB ckTD ckTB t := by
  intro rest
  obtain ⟨n, f, l, u, e⟩ := t
  obtain ⟨h1, h2, h3, h4, h5⟩ := h
  dsimp only at h1 h2 h3 h4 h5
  have e0 : ckTB ⟨n, f, l, u, e⟩ ++ rest = be 4 n.toNat ++ (be 8 f ++ (be 8 l ++ (be 8 u ++ (be 1 e.toNat ++ rest)))) := by rw [be_one]; simp [ckTB, tB]
  rw [e0]
  unfold ckTD ckTf ckTl ckTu ckTe
  rw [rdN_fw (by omega)]
  simp only [rdN_fw (k := 8) (x := f) (by omega), rdN_fw (k := 8) (x := l) (by omega), rdN_fw (k := 8) (x := u) (by omega), rdN_fw (k := 1) (x := e.toNat) (by omega)]
  rw [show ((n.toNat : Nat) : Int) = n by omega, show ((e.toNat : Nat) : Int) = e by omega]
theorem ckTD_bk : BkB ckTD ckTB CkTF := by
  intro s x l' h
  unfold ckTD ckTf ckTl ckTu ckTe at h
  simp only [Prod.mk.injEq] at h
  obtain ⟨rfl, h2⟩ := h
  generalize hs1 : rdN 4 s = s1 at *
  generalize hs2 : rdN 8 s1.2 = s2 at *
  generalize hs3 : rdN 8 s2.2 = s3 at *
  generalize hs4 : rdN 8 s3.2 = s4 at *
  generalize hs5 : rdN 1 s4.2 = s5 at *
  obtain ⟨x5, y5⟩ := s5
  dsimp only at h2
  subst h2
  obtain ⟨k5, b5⟩ := rdN_bk hs5
  obtain ⟨x4, y4⟩ := s4
  dsimp only at k5
  subst k5
  obtain ⟨k4, b4⟩ := rdN_bk hs4
  obtain ⟨x3, y3⟩ := s3
  dsimp only at k4
  subst k4
  obtain ⟨k3, b3⟩ := rdN_bk hs3
  obtain ⟨x2, y2⟩ := s2
  dsimp only at k3
  subst k3
  obtain ⟨k2, b2⟩ := rdN_bk hs2
  obtain ⟨x1, y1⟩ := s1
  dsimp only at k2
  subst k2
  obtain ⟨k1, b1⟩ := rdN_bk hs1
  refine ⟨?_, ⟨by dsimp only; omega, by dsimp only; omega, by dsimp only; omega, by dsimp only; omega, by dsimp only; omega⟩⟩
  rw [k1]
  simp [ckTB, tB, be_one]
structure CkPF (p : CkP) : Prop where
  page : 0 ≤ p.page ∧ p.page < 256
  since : p.since < 18446744073709551616
theorem ckPD_fw {p : CkP} (h : CkPF p) : FwB ckPD ckPB p := by
  intro rest
  obtain ⟨n, f⟩ := p
  obtain ⟨h1, h2⟩ := h
  dsimp only at h1 h2
  have e0 : ckPB ⟨n, f⟩ ++ rest = be 1 n.toNat ++ (be 8 f ++ rest) := by rw [be_one]; simp [ckPB, tB]
  rw [e0]
  unfold ckPD ckPr
  rw [rdN_fw (by omega)]
  simp only [rdN_fw (k := 8) (x := f) (by omega)]
  rw [show ((n.toNat : Nat) : Int) = n by omega]
theorem ckPD_bk : BkB ckPD ckPB CkPF := by
  intro s x l' h
  unfold ckPD ckPr at h
  simp only [Prod.mk.injEq] at h
  obtain ⟨rfl, h2⟩ := h
  generalize hs1 : rdN 1 s = s1 at *
  generalize hs2 : rdN 8 s1.2 = s2 at *
  obtain ⟨x2, y2⟩ := s2
  dsimp only at h2
  subst h2
  obtain ⟨k2, b2⟩ := rdN_bk hs2
  obtain ⟨x1, y1⟩ := s1
  dsimp only at k2
  subst k2
  obtain ⟨k1, b1⟩ := rdN_bk hs1
  refine ⟨?_, ⟨by dsimp only; omega, by dsimp only; omega⟩⟩
  rw [k1]
  simp [ckPB, tB, be_one]
end Go.Proofs.E

namespace Go.Proofs.E
open Go Go.RowKit
set_option linter.unusedVariables false
set_option linter.unusedSimpArgs false
set_option linter.unusedSectionVars false
set_option maxRecDepth 8000
section
variable {H : Type} {enc : TypeId × Value → H} {w : World}
theorem opnS_step2 : OpnS enc Tryz.prog w 62 (fun cs (x : Stp) => cs = stpV x ∧ StpF x) := fun fuel cs x h hw => by
  obtain ⟨hl, hf⟩ := opnS_fields Tryz.underlying62 h hw
  have hl : cs.length = 6 := by rw [hl]; kernel_rfl
  obtain ⟨c0, c1, c2, c3, c4, c5, rfl⟩ : ∃ c0 c1 c2 c3 c4 c5, cs = [c0, c1, c2, c3, c4, c5] := by
    match cs, hl with
    | [c0, c1, c2, c3, c4, c5], _ => exact ⟨c0, c1, c2, c3, c4, c5, rfl⟩
  obtain ⟨k, h0, _⟩ := opnS_field h hw Tryz.underlying62 0 0 1 rfl rfl rfl (by kernel_rfl) (opn_int Tryz.underlying3).sized
  obtain ⟨r, h1, w1⟩ := opnS_field h hw Tryz.underlying62 1 1 4 rfl rfl rfl (by kernel_rfl) opnS_row
  obtain ⟨b, h2, b0, b1⟩ := opnS_field h hw Tryz.underlying62 2 5 1 rfl rfl rfl (by kernel_rfl) (opn_int Tryz.underlying2).sized
  simp only [List.drop_zero, List.drop_succ_cons, List.take_succ_cons, List.take_zero, List.cons.injEq, and_true, rowV] at h0 h1 h2
  obtain ⟨rfl, rfl, rfl, rfl⟩ := h1
  subst h0; subst h2
  simp only [lo, hi] at b0 b1
  exact ⟨⟨k, r, b⟩, rfl, w1, b0, b1⟩
theorem opnS_rec2 : OpnS enc Tryz.prog w 30 (fun cs (x : RV × Rc) => cs = recV x.1 x.2 ∧ (RcW (hpOf w) x.1 x.2 ∧ ∀ s ∈ x.2.steps, StpF s)) := fun fuel cs x h hw => by
  obtain ⟨hl, hf⟩ := opnS_fields Tryz.underlying30 h hw
  have hl : cs.length = 10 := by rw [hl]; kernel_rfl
  obtain ⟨c0, c1, c2, c3, c4, c5, c6, c7, c8, c9, rfl⟩ : ∃ c0 c1 c2 c3 c4 c5 c6 c7 c8 c9, cs = [c0, c1, c2, c3, c4, c5, c6, c7, c8, c9] := by
    match cs, hl with
    | [c0, c1, c2, c3, c4, c5, c6, c7, c8, c9], _ => exact ⟨c0, c1, c2, c3, c4, c5, c6, c7, c8, c9, rfl⟩
  obtain ⟨k, h0, _⟩ := opnS_field h hw Tryz.underlying30 0 0 1 rfl rfl rfl (by kernel_rfl) (opn_int Tryz.underlying3).sized
  obtain ⟨l, h1, l0, _⟩ := opnS_field h hw Tryz.underlying30 1 1 1 rfl rfl rfl (by kernel_rfl) (opn_int Tryz.underlying24).sized
  obtain ⟨t, h2, _⟩ := opnS_field h hw Tryz.underlying30 2 2 1 rfl rfl rfl (by kernel_rfl) (opn_int Tryz.underlying3).sized
  obtain ⟨p, h3, p0, _⟩ := opnS_field h hw Tryz.underlying30 3 3 1 rfl rfl rfl (by kernel_rfl) (opn_int Tryz.underlying24).sized
  obtain ⟨n, h4, n0, _⟩ := opnS_field h hw Tryz.underlying30 4 4 1 rfl rfl rfl (by kernel_rfl) (opn_int Tryz.underlying24).sized
  obtain ⟨⟨ia, inn, ic, ims⟩, h5, w5⟩ := opnS_field h hw Tryz.underlying30 5 5 1 rfl rfl rfl (by kernel_rfl) (opnS_slice (sz := 7) (by' := 120) Tryz.underlying25 (by kernel_rfl) (by decide) (by kernel_rfl) opnS_image)
  obtain ⟨⟨sa, sn, sc, steps⟩, h6, w6⟩ := opnS_field h hw Tryz.underlying30 6 6 1 rfl rfl rfl (by kernel_rfl) (opnS_slice (sz := 6) (by' := 56) Tryz.underlying26 (by kernel_rfl) (by decide) (by kernel_rfl) opnS_step2)
  obtain ⟨x7, h7, _⟩ := opnS_field h hw Tryz.underlying30 7 7 1 rfl rfl rfl (by kernel_rfl) (opn_int Tryz.underlying3).sized
  obtain ⟨⟨ta, tn, tc, txns⟩, h8, w8⟩ := opnS_field h hw Tryz.underlying30 8 8 1 rfl rfl rfl (by kernel_rfl) (opnS_slice (sz := 5) (by' := 40) Tryz.underlying27 (by kernel_rfl) (by decide) (by kernel_rfl) opnS_ckt)
  obtain ⟨⟨da, dn, dc, dirty⟩, h9, w9⟩ := opnS_field h hw Tryz.underlying30 9 9 1 rfl rfl rfl (by kernel_rfl) (opnS_slice (sz := 2) (by' := 16) Tryz.underlying28 (by kernel_rfl) (by decide) (by kernel_rfl) opnS_ckp)
  obtain ⟨i1, i2, i3, _⟩ := aIn_ofW imV_len h5
  obtain ⟨s1, s2, s3, _⟩ := aIn_ofW stpV_len h6
  obtain ⟨t1, t2, t3, _⟩ := aIn_ofW ckTV_len h8
  obtain ⟨d1, d2, d3, _⟩ := aIn_ofW ckPV_len h9
  simp only [reachBytes] at w5 w6 w8 w9
  replace h5 := h5.cells
  replace h6 := h6.cells
  replace h8 := h8.cells
  replace h9 := h9.cells
  simp only [List.drop_zero, List.drop_succ_cons, List.take_succ_cons, List.take_zero, List.cons.injEq, and_true] at h0 h1 h2 h3 h4 h5 h6 h7 h8 h9
  subst h0; subst h1; subst h2; subst h3; subst h4; subst h5; subst h6; subst h7; subst h8; subst h9
  refine ⟨(⟨⟨ia, inn, ic⟩, ⟨sa, sn, sc⟩, ⟨ta, tn, tc⟩, ⟨da, dn, dc⟩⟩, ⟨k, l.toNat, t, p.toNat, n.toNat, ims, steps, x7, txns, dirty⟩), ?_, ⟨⟨i1, by dsimp only; omega, i3⟩, i2, ⟨s1, by dsimp only; omega, s3⟩, ⟨t1, by dsimp only; omega, t3⟩, ⟨d1, by dsimp only; omega, d3⟩, fun s hs => (s2 s hs).row⟩, s2⟩
  simp only [recV, u64_back l0, u64_back p0, u64_back n0]
end
end Go.Proofs.E

namespace Go.Proofs.E
open Go Go.RowKit
set_option linter.unusedVariables false
set_option linter.unusedSimpArgs false
set_option linter.unusedSectionVars false
/-! ## what the laws of this chapter are handed -/
theorem opn_u8 {H : Type} {enc : TypeId × Value → H} {w : World} : Opn enc Tryz.prog w 5 (fun cs (b : UInt8) => cs = [u8c b]) := fun fuel cs x h => by
  obtain ⟨n, rfl, h1, h2⟩ := opn_int Tryz.underlying5 fuel cs x h
  simp only [lo, hi] at h1 h2
  refine ⟨UInt8.ofNat n.toNat, ?_⟩
  have : ((UInt8.ofNat n.toNat).toNat : Int) = n := by simp [UInt8.toNat_ofNat]; omega
  simp only [u8c, this]
theorem opn_bytes {H : Type} {enc : TypeId × Value → H} {w : World} : Opn enc Tryz.prog w 44 (RS (hpOf w) 1 (fun cs (b : UInt8) => cs = [u8c b])) :=
  opn_slice Tryz.underlying44 (by kernel_rfl) (by decide) opn_u8
theorem sIn_of {ρ : Hp} {cs : List Value} {s : Option Addr × Nat × Nat × List UInt8} (h : RS ρ 1 (fun cs (b : UInt8) => cs = [u8c b]) cs s) : SIn ρ u8c s.1 s.2.1 s.2.2.2 ∧ s.2.1 ≤ s.2.2.1 ∧ s.2.1 ≤ 9223372036854775807 := by
  obtain ⟨a, n, c, ks⟩ := s
  obtain ⟨h1, h2, h3, h4, h5⟩ := h
  dsimp only at h1 h2 h3 h4 h5 ⊢
  refine ⟨⟨h4, ?_⟩, h2, by omega⟩
  by_cases h0 : n = 0
  · exact .inl h0
  · right
    obtain ⟨b, off, C, T, fr, e1, e2, e3, e4⟩ := h5 0 (by omega)
    have same : ∀ i (h : i < ks.length), off + i * 1 + 1 ≤ C.length ∧ (C.drop (off + i * 1)).take 1 = [u8c ks[i]] := fun i hi => by
      obtain ⟨b', off', C', T', fr', f1, f2, f3, f4⟩ := h5 i hi
      rw [e1] at f1
      cases f1
      rw [e2] at f2
      cases f2
      exact ⟨f3, f4⟩
    refine ⟨b, off, C, T, fr, e1, e2, ?_⟩
    apply List.ext_getElem
    · have := (same (n - 1) (by omega)).1
      simp; omega
    · intro i h1 h2
      have hi : i < ks.length := by simpa using h2
      have h3 := (same i hi).2
      have h4 := congrArg (fun l : List Value => l[0]?) h3
      simp only [List.getElem?_cons_zero] at h4
      rw [List.getElem?_take_of_lt (by omega), List.getElem?_drop] at h4
      have h5 : C[off + i]? = some (u8c ks[i]) := by simpa using h4
      simp only [List.getElem_take, List.getElem_drop, List.getElem_map]
      exact (List.getElem?_eq_some_iff.1 h5).2
end Go.Proofs.E

namespace Go.Proofs.E
open Go Go.RowKit
set_option linter.unusedVariables false
set_option linter.unusedSimpArgs false
set_option linter.unusedSectionVars false
set_option maxRecDepth 8000
theorem sIn_ofA {ρ : Hp} {α : Type} {g : α → Value} {a : Option Addr} {n : Nat} {l : List α} (h : AIn ρ 1 (fun x => [g x]) a n l) : SIn ρ g a n l := by
  refine ⟨h.len, ?_⟩
  rcases h.out with h0 | ⟨b, off, C, T, fr, e1, e2, e3, e4⟩
  · exact .inl h0
  · right
    refine ⟨b, off, C, T, fr, e1, e2, ?_⟩
    have key : ∀ l : List α, (l.map (fun x => [g x])).flatten = l.map g := fun l => by
      induction l with
      | nil => rfl
      | cons a r ih => simp only [List.map_cons, List.flatten_cons, ih, List.singleton_append]
    have := key l
    rw [← this, ← e4]; simp
section
variable {H : Type} {enc : TypeId × Value → H} {w : World}
theorem opnS_i64 : OpnS enc Tryz.prog w 3 (fun cs (x : Int) => cs = [i64c x] ∧ i64in x) := fun fuel cs x h hw => by
  obtain ⟨k, h0, k0, k1⟩ := (opn_int Tryz.underlying3).sized fuel cs x h hw
  refine ⟨k, h0, ?_⟩
  simp only [lo, hi] at k0 k1; omega
end
end Go.Proofs.E

namespace Go.Proofs.E
open Go
set_option linter.unusedVariables false
set_option linter.unusedSimpArgs false
set_option linter.unusedSectionVars false
set_option maxRecDepth 4000
set_option maxHeartbeats 1000000
attribute [local irreducible] Yl TL TC TE Spec YSpec R1 Hp.le EnvLe TS TR YS Stays
/-! ## a record and its bytes -/
structure RcF (r : Rc) : Prop where
  im : ∀ x ∈ r.ims, IdFit x.b ∧ IdFit x.a
  st : ∀ s ∈ r.steps, StpF s
theorem up_all {α : Type} {right : α → Bool} {by' : α → Int} {l : List α} (h : upB right by' l l.length = true) : ∀ i (hi : i < l.length), right l[i] = true ∧ (i = 0 ∨ by' (l[i - 1]'(by omega)) < by' l[i]) := by
  intro i hi
  obtain ⟨h1, h2⟩ := (risesB_true h (Nat.le_refl _)).2 i hi hi
  refine ⟨h1, ?_⟩
  rcases h2 with h2 | h2
  · exact .inl h2
  · exact .inr (of_decide_eq_true h2)
theorem up_mem {α : Type} {right : α → Bool} {by' : α → Int} {l : List α} (h : upB right by' l l.length = true) : ∀ x ∈ l, right x = true := by
  intro x hx
  obtain ⟨i, hi, rfl⟩ := List.mem_iff_getElem.1 hx
  exact (up_all h i hi).1
theorem ckP_len {lsn : Nat} {l : List CkP} (h : upB (ckPOk lsn) CkP.page l l.length = true) : l.length ≤ 64 := by
  have hp : ∀ i (hi : i < l.length), 0 ≤ l[i].page ∧ l[i].page < 64 := fun i hi => by
    have := (up_all h i hi).1
    unfold ckPOk pageOk at this
    rw [Bool.and_eq_true, decide_eq_true_eq] at this
    exact this.1
  have hi : ∀ i (hi : i < l.length), (i : Int) ≤ l[i].page := by
    intro i
    induction i with
    | zero => intro hi; exact (hp 0 hi).1
    | succ i ih =>
      intro hi
      have h1 := ih (by omega)
      have h2 := (up_all h (i + 1) hi).2
      simp only [Nat.add_sub_cancel] at h2
      omega
  rcases Nat.lt_or_ge 64 l.length with hl | hl
  · have := hi 64 hl
    have := hp 64 hl
    omega
  · exact hl
structure RecOk (r : Rc) : Prop where
  kind : 1 ≤ r.kind ∧ r.kind ≤ 9
  lsn : 1 ≤ r.lsn ∧ r.lsn ≤ 1099511627776 ∧ r.prev < r.lsn
  txn : 0 ≤ r.txn ∧ r.txn ≤ 1073741824
  next : r.next ≤ r.lsn
  n0 : r.next = 0 ∨ r.kind = 3 ∨ r.kind = 4 ∨ r.kind = 5
  i0 : r.ims = [] ∨ r.kind = 2 ∨ r.kind = 5
  s0 : r.steps = [] ∨ r.kind = 4
  c0 : (r.txns = [] ∧ r.dirty = [] ∧ r.nextTxn = 0) ∨ r.kind = 9
  il : r.ims.length ≤ 16
  im : ∀ x ∈ r.ims, (0 ≤ x.page ∧ x.page < 64) ∧ contOk x.a = true ∧ contOk x.b = true
  i5 : r.kind = 5 → ∀ x ∈ r.ims, x.b = ztC
  sl : r.steps.length ≤ 2
  st : ∀ s ∈ r.steps, stepOk s = true
  nt : 0 ≤ r.nextTxn ∧ r.nextTxn ≤ 1073741824
  tl : r.txns.length ≤ 8
  tx : ∀ t ∈ r.txns, ckTOk r.lsn r.nextTxn t = true
  dl : r.dirty.length ≤ 64
  di : ∀ p ∈ r.dirty, ckPOk r.lsn p = true
theorem ims_facts {b : Bool} {l : List Im} (h : imsOk b l = true) : l.length ≤ 16 ∧ (∀ x ∈ l, (0 ≤ x.page ∧ x.page < 64) ∧ contOk x.a = true ∧ contOk x.b = true) ∧ (b = false → ∀ x ∈ l, x.b = ztC) := by
  unfold imsOk at h
  rw [Bool.and_eq_true, decide_eq_true_eq] at h
  obtain ⟨h1, h2⟩ := h
  have h3 := up_mem h2
  have h4 : ∀ x ∈ l, (0 ≤ x.page ∧ x.page < 64) ∧ contOk x.a = true ∧ contOk x.b = true ∧ (b = true ∨ x.b.kind = 0) := fun x hx => by
    have := h3 x hx
    unfold imOk pageOk at this
    rw [Bool.and_eq_true, Bool.and_eq_true, Bool.and_eq_true, Bool.or_eq_true, decide_eq_true_eq, decide_eq_true_eq] at this
    exact this
  refine ⟨h1, fun x hx => ⟨(h4 x hx).1, (h4 x hx).2.1, (h4 x hx).2.2.1⟩, fun hb x hx => ?_⟩
  obtain ⟨_, _, g3, g4⟩ := h4 x hx
  have g5 : x.b.kind = 0 := by
    rcases g4 with g4 | g4
    · rw [hb] at g4; cases g4
    · exact g4
  rcases contB_form g3 with e | e | e
  · exact e.2.1
  · omega
  · omega
theorem recOk_facts {r : Rc} (h : recOk r = true) : RecOk r := by
  unfold recOk headOk bareOk at h
  rw [Bool.and_eq_true, Bool.and_eq_true, Bool.and_eq_true, decide_eq_true_eq, decide_eq_true_eq, decide_eq_true_eq] at h
  obtain ⟨hk, ⟨h1, h2, h3, h4, h5, h6, h7⟩, ha, b1, b2, b3, b4⟩ := h
  unfold askOk at ha
  obtain ⟨k, lsn, txn, prev, next, ims, steps, nt, txns, dirty⟩ := r
  dsimp only at *
  by_cases k2 : k = 2
  · rw [if_pos k2, Bool.and_eq_true] at ha
    obtain ⟨f1, f2, f3⟩ := ims_facts ha.2
    obtain rfl : steps = [] := by rcases b3 with b3 | b3 <;> first | exact b3 | omega
    obtain ⟨rfl, rfl, rfl⟩ : txns = [] ∧ dirty = [] ∧ nt = 0 := by rcases b4 with b4 | b4 <;> first | exact b4 | omega
    exact ⟨hk, ⟨h1, h2, h3⟩, ⟨h4, h5⟩, by dsimp only; omega, b1, b2, b3, b4, f1, f2, fun e => by dsimp only at e; omega, by simp, by simp, by simp, by simp, by simp, by simp, by simp⟩
  · rw [if_neg k2] at ha
    by_cases k3 : k = 3
    · rw [if_pos k3, decide_eq_true_eq] at ha
      obtain rfl : ims = [] := by rcases b2 with b2 | b2 <;> first | exact b2 | omega
      obtain rfl : steps = [] := by rcases b3 with b3 | b3 <;> first | exact b3 | omega
      obtain ⟨rfl, rfl, rfl⟩ : txns = [] ∧ dirty = [] ∧ nt = 0 := by rcases b4 with b4 | b4 <;> first | exact b4 | omega
      exact ⟨hk, ⟨h1, h2, h3⟩, ⟨h4, h5⟩, by dsimp only; omega, b1, b2, b3, b4, by simp, by simp, by simp, by simp, by simp, by simp, by simp, by simp, by simp, by simp⟩
    · rw [if_neg k3] at ha
      by_cases k4 : k = 4
      · rw [if_pos k4, Bool.and_eq_true, Bool.and_eq_true, decide_eq_true_eq, decide_eq_true_eq] at ha
        obtain rfl : ims = [] := by rcases b2 with b2 | b2 <;> first | exact b2 | omega
        obtain ⟨rfl, rfl, rfl⟩ : txns = [] ∧ dirty = [] ∧ nt = 0 := by rcases b4 with b4 | b4 <;> first | exact b4 | omega
        exact ⟨hk, ⟨h1, h2, h3⟩, ⟨h4, h5⟩, by dsimp only; omega, b1, b2, b3, b4, by simp, by simp, by simp, ha.2.1.2, List.all_eq_true.1 ha.2.2, by simp, by simp, by simp, by simp, by simp⟩
      · rw [if_neg k4] at ha
        by_cases k5 : k = 5
        · rw [if_pos k5, Bool.and_eq_true, decide_eq_true_eq] at ha
          obtain ⟨f1, f2, f3⟩ := ims_facts ha.2
          obtain rfl : steps = [] := by rcases b3 with b3 | b3 <;> first | exact b3 | omega
          obtain ⟨rfl, rfl, rfl⟩ : txns = [] ∧ dirty = [] ∧ nt = 0 := by rcases b4 with b4 | b4 <;> first | exact b4 | omega
          exact ⟨hk, ⟨h1, h2, h3⟩, ⟨h4, h5⟩, by dsimp only; omega, b1, b2, b3, b4, f1, f2, fun _ => f3 rfl, by simp, by simp, by simp, by simp, by simp, by simp, by simp⟩
        · rw [if_neg k5] at ha
          obtain rfl : ims = [] := by rcases b2 with b2 | b2 <;> first | exact b2 | omega
          obtain rfl : steps = [] := by rcases b3 with b3 | b3 <;> first | exact b3 | omega
          by_cases k9 : k = 9
          · rw [if_pos k9, Bool.and_eq_true, Bool.and_eq_true, decide_eq_true_eq] at ha
            obtain ⟨⟨a1, a2, a3⟩, a4, a5⟩ := ha
            exact ⟨hk, ⟨h1, h2, h3⟩, ⟨h4, h5⟩, by dsimp only; omega, b1, b2, b3, b4, by simp, by simp, by simp, by simp, by simp, ⟨by dsimp only; omega, a2⟩, a3, up_mem a4, ckP_len a5, up_mem a5⟩
          · obtain ⟨rfl, rfl, rfl⟩ : txns = [] ∧ dirty = [] ∧ nt = 0 := by rcases b4 with b4 | b4 <;> first | exact b4 | omega
            exact ⟨hk, ⟨h1, h2, h3⟩, ⟨h4, h5⟩, by dsimp only; omega, b1, b2, b3, b4, by simp, by simp, by simp, by simp, by simp, by simp, by simp, by simp, by simp, by simp⟩
theorem ckT_facts {lsn : Nat} {next : Int} {t : CkT} (h : ckTOk lsn next t = true) (hl : lsn ≤ 1099511627776) (hn : next ≤ 1073741824) : CkTF t := by
  unfold ckTOk at h
  rw [decide_eq_true_eq] at h
  obtain ⟨a1, a2, a3, a4, a5, a6, a7, a8⟩ := h
  exact ⟨by omega, by omega, by omega, by omega, by omega⟩
theorem ckP_facts {lsn : Nat} {p : CkP} (h : ckPOk lsn p = true) (hl : lsn ≤ 1099511627776) : CkPF p ∧ p.page < 64 := by
  unfold ckPOk pageOk at h
  rw [Bool.and_eq_true, decide_eq_true_eq, decide_eq_true_eq] at h
  obtain ⟨⟨a1, a2⟩, a3, a4⟩ := h
  exact ⟨⟨by omega, by omega⟩, by omega⟩
theorem recOk_lay {r : Rc} (h : recOk r = true) : LayOk r := by
  have f := recOk_facts h
  have l1 := f.lsn
  have l2 := f.next
  have l3 := f.txn
  have l4 := f.nt
  have l5 := f.kind
  exact ⟨by omega, by omega, by omega, by omega, by omega, by omega, f.il, f.im, f.sl, f.st, f.tl, fun t ht => by
      have g := ckT_facts (f.tx t ht) l1.2.1 l4.2
      exact ⟨g.txn, g.first, g.last, g.undo, g.state.1, g.state.2⟩, f.dl, fun p hp => by
      obtain ⟨g, g2⟩ := ckP_facts (f.di p hp) l1.2.1
      exact ⟨⟨g.page.1, g2⟩, g.since⟩⟩
theorem headD_fw {k lsn prev : Nat} {txn : Nat} (h1 : k < 256) (h2 : lsn < 18446744073709551616) (h3 : txn < 4294967296) (h4 : prev < 18446744073709551616) (rest : List UInt8) :
    headD (be 1 k ++ (be 8 lsn ++ (be 4 txn ++ (be 8 prev ++ rest))), 0, false) = (⟨k, lsn, txn, prev, 0, [], [], 0, [], []⟩, rest, 0, false) := by
  unfold headD hdL hdT hdP
  rw [rdN_fw (by omega)]
  simp only [rdN_fw (k := 8) (x := lsn) (by omega), rdN_fw (k := 4) (x := txn) (by omega), rdN_fw (k := 8) (x := prev) (by omega)]
theorem dec_fw {r : Rc} (h : recOk r = true) (hf : RcF r) (rest : List UInt8) : decD (recB r ++ rest) = (r.plain, rest, 0, false) := by
  obtain ⟨f1, f2, f3, f4, n0, i0, s0, c0, f5, f6, f7, f8, f9, f10, f11, f12, f13, f14⟩ := recOk_facts h
  obtain ⟨q1, q2⟩ := hf
  obtain ⟨k, lsn, txn, prev, next, ims, steps, nt, txns, dirty⟩ := r
  dsimp only at *
  have e : recB ⟨k, lsn, txn, prev, next, ims, steps, nt, txns, dirty⟩ ++ rest = be 1 k.toNat ++ (be 8 lsn ++ (be 4 txn.toNat ++ (be 8 prev ++ (recTB ⟨k, lsn, txn, prev, next, ims, steps, nt, txns, dirty⟩ ++ rest)))) := by
    rw [be_one]; simp [recB, recHB, tB]
  unfold decD
  rw [e, headD_fw (by omega) (by omega) (by omega) (by omega)]
  rw [show ((k.toNat : Nat) : Int) = k by omega, show ((txn.toNat : Nat) : Int) = txn by omega]
  unfold tailD recTB imsB
  dsimp only
  have hI : ∀ two : Bool, (two = false → ∀ x ∈ ims, x.b = ztC) → ∀ X, manyD (imD two) (listB (imB two) ims ++ X, 0, false) = (ims.map Im.plain, X, 0, false) := fun two h0 X => by
    have := manyD_fw (f := imD two) (enc := imB two) (xs := ims.map Im.plain) (by simp; omega) (fun x hx => by
      obtain ⟨y, hy, rfl⟩ := List.mem_map.1 hx
      exact imD_fw (f6 y hy).1 (f6 y hy).2.1 (f6 y hy).2.2 (q1 y hy).2 (q1 y hy).1 (fun h => h0 h y hy)) X
    have e : listB (imB two) ims = listB (imB two) (ims.map Im.plain) := by unfold listB; rw [List.length_map, List.flatMap_map]; rfl
    rw [e]
    exact this
  by_cases k2 : k = 2
  · rw [if_pos k2, if_pos k2]
    obtain rfl : steps = [] := by rcases s0 with e | e <;> first | exact e | omega
    obtain ⟨rfl, rfl, rfl⟩ : txns = [] ∧ dirty = [] ∧ nt = 0 := by rcases c0 with e | e <;> first | exact e | omega
    obtain rfl : next = 0 := by omega
    unfold chD
    dsimp only
    rw [hI _ (fun e => by simp [k2] at e)]
  · rw [if_neg k2, if_neg k2]
    by_cases k3 : k = 3
    · rw [if_pos k3, if_pos k3]
      obtain rfl : ims = [] := by rcases i0 with e | e <;> first | exact e | omega
      obtain rfl : steps = [] := by rcases s0 with e | e <;> first | exact e | omega
      obtain ⟨rfl, rfl, rfl⟩ : txns = [] ∧ dirty = [] ∧ nt = 0 := by rcases c0 with e | e <;> first | exact e | omega
      unfold neD
      rw [rdN_fw (k := 8) (x := next) (by omega)]
      rfl
    · rw [if_neg k3, if_neg k3]
      by_cases k4 : k = 4
      · rw [if_pos k4, if_pos k4]
        obtain rfl : ims = [] := by rcases i0 with e | e <;> first | exact e | omega
        obtain ⟨rfl, rfl, rfl⟩ : txns = [] ∧ dirty = [] ∧ nt = 0 := by rcases c0 with e | e <;> first | exact e | omega
        unfold thenD neD doD
        rw [List.append_assoc, rdN_fw (k := 8) (x := next) (by omega)]
        dsimp only
        rw [manyD_fw (by omega) (fun s hs => stpD_fw (f9 s hs) (q2 s hs))]
        rfl
      · rw [if_neg k4, if_neg k4]
        by_cases k5 : k = 5
        · rw [if_pos k5, if_pos k5]
          obtain rfl : steps = [] := by rcases s0 with e | e <;> first | exact e | omega
          obtain ⟨rfl, rfl, rfl⟩ : txns = [] ∧ dirty = [] ∧ nt = 0 := by rcases c0 with e | e <;> first | exact e | omega
          unfold thenD neD chD
          rw [List.append_assoc, rdN_fw (k := 8) (x := next) (by omega)]
          dsimp only
          rw [hI _ (fun _ => f7 k5)]
        · rw [if_neg k5, if_neg k5]
          obtain rfl : ims = [] := by rcases i0 with e | e <;> first | exact e | omega
          obtain rfl : steps = [] := by rcases s0 with e | e <;> first | exact e | omega
          obtain rfl : next = 0 := by omega
          by_cases k9 : k = 9
          · rw [if_pos k9, if_pos k9]
            unfold thenD cxD ctD cdD
            rw [List.append_assoc, rdN_fw (k := 4) (x := nt.toNat) (by omega)]
            dsimp only
            rw [List.append_assoc, manyD_fw (by omega) (fun t ht => ckTD_fw (ckT_facts (f12 t ht) f2.2.1 f10.2))]
            dsimp only
            rw [manyD_fw (by omega) (fun p hp => ckPD_fw (ckP_facts (f14 p hp) f2.2.1).1)]
            dsimp only
            rw [show ((nt.toNat : Nat) : Int) = nt by omega]
            rfl
          · rw [if_neg k9, if_neg k9]
            obtain ⟨rfl, rfl, rfl⟩ : txns = [] ∧ dirty = [] ∧ nt = 0 := by rcases c0 with e | e <;> first | exact e | omega
            rfl
end Go.Proofs.E

namespace Go.Proofs.E
open Go
set_option linter.unusedVariables false
set_option linter.unusedSimpArgs false
set_option linter.unusedSectionVars false
set_option maxRecDepth 4000
set_option maxHeartbeats 1000000
attribute [local irreducible] Yl TL TC TE Spec YSpec R1 Hp.le EnvLe TS TR YS Stays
theorem ContFit.id' {c : Cont} (h : ContFit c) : IdFit c := ⟨h.row, fun k hk => (h.kid k hk).id⟩
theorem headD_bk {s : RS3} {r : Rc} {l' : List UInt8} (h : headD s = (r, l', 0, false)) : s = (recHB r ++ l', 0, false) ∧ r = ⟨r.kind, r.lsn, r.txn, r.prev, 0, [], [], 0, [], []⟩ := by
  unfold headD hdL hdT hdP at h
  simp only [Prod.mk.injEq] at h
  obtain ⟨rfl, h2⟩ := h
  generalize hs1 : rdN 1 s = s1 at *
  generalize hs2 : rdN 8 s1.2 = s2 at *
  generalize hs3 : rdN 4 s2.2 = s3 at *
  generalize hs4 : rdN 8 s3.2 = s4 at *
  obtain ⟨x4, y4⟩ := s4
  dsimp only at h2
  subst h2
  obtain ⟨k4, b4⟩ := rdN_bk hs4
  obtain ⟨x3, y3⟩ := s3
  dsimp only at k4
  subst k4
  obtain ⟨k3, b3⟩ := rdN_bk hs3
  obtain ⟨x2, y2⟩ := s2
  dsimp only at k3
  subst k3
  obtain ⟨k2, b2⟩ := rdN_bk hs2
  obtain ⟨x1, y1⟩ := s1
  dsimp only at k2
  subst k2
  obtain ⟨k1, b1⟩ := rdN_bk hs1
  refine ⟨?_, rfl⟩
  rw [k1]
  simp [recHB, tB, be_one]
theorem chD_bk {r0 : Rc} {s : RS3} {r : Rc} {l' : List UInt8} (h : chD r0 s = (r, l', 0, false)) : s = (imsB r ++ l', 0, false) ∧ r = { r0 with ims := r.ims } ∧ r.ims = r.ims.map Im.plain ∧ ∀ x ∈ r.ims, IdFit x.b ∧ IdFit x.a := by
  unfold chD at h
  simp only [Prod.mk.injEq] at h
  obtain ⟨rfl, h2⟩ := h
  obtain ⟨g1, g2, g3⟩ := manyD_bk (f := imD (decide (r0.kind = 2))) imD_bk (s := s) (x := (manyD (imD (decide (r0.kind = 2))) s).1) (l' := l') (by rw [← h2])
  generalize (manyD (imD (decide (r0.kind = 2))) s).1 = xs at *
  refine ⟨g1, rfl, ?_, fun x hx => ?_⟩
  · dsimp only
    have : ∀ (l : List Im), (∀ x ∈ l, x = x.plain) → l = l.map Im.plain := by
      intro l
      induction l with
      | nil => intro _; rfl
      | cons a r ih => intro h; rw [List.map_cons, ← h a (by simp), ← ih (fun x hx => h x (by simp [hx]))]
    exact this xs (fun x hx => (g3 x hx).eq)
  · have f := g3 x hx
    refine ⟨?_, f.a.2.id'⟩
    cases hb : decide (r0.kind = 2)
    · rw [f.z hb]; exact ⟨by simp, by simp⟩
    · exact (f.b hb).2.id'
theorem neD_bk {r0 : Rc} {s : RS3} {r : Rc} {l' : List UInt8} (h : neD r0 s = (r, l', 0, false)) : s = (be 8 r.next ++ l', 0, false) ∧ r = { r0 with next := r.next } := by
  unfold neD at h
  simp only [Prod.mk.injEq] at h
  obtain ⟨rfl, h2⟩ := h
  obtain ⟨g1, g2⟩ := rdN_bk (k := 8) (s := s) (x := (rdN 8 s).1) (l' := l') (by rw [← h2])
  exact ⟨g1, rfl⟩
theorem doD_bk {r0 : Rc} {s : RS3} {r : Rc} {l' : List UInt8} (h : doD r0 s = (r, l', 0, false)) : s = (listB stpB r.steps ++ l', 0, false) ∧ r = { r0 with steps := r.steps } ∧ ∀ x ∈ r.steps, StpF x := by
  unfold doD at h
  simp only [Prod.mk.injEq] at h
  obtain ⟨rfl, h2⟩ := h
  obtain ⟨g1, g2, g3⟩ := manyD_bk (f := stpD) stpD_bk (s := s) (x := (manyD stpD s).1) (l' := l') (by rw [← h2])
  exact ⟨g1, rfl, g3⟩
theorem cxD_bk {r0 : Rc} {s : RS3} {r : Rc} {l' : List UInt8} (h : cxD r0 s = (r, l', 0, false)) : s = (be 4 r.nextTxn.toNat ++ l', 0, false) ∧ r = { r0 with nextTxn := r.nextTxn } := by
  unfold cxD at h
  simp only [Prod.mk.injEq] at h
  obtain ⟨rfl, h2⟩ := h
  obtain ⟨g1, g2⟩ := rdN_bk (k := 4) (s := s) (x := (rdN 4 s).1) (l' := l') (by rw [← h2])
  exact ⟨g1, rfl⟩
theorem ctD_bk {r0 : Rc} {s : RS3} {r : Rc} {l' : List UInt8} (h : ctD r0 s = (r, l', 0, false)) : s = (listB ckTB r.txns ++ l', 0, false) ∧ r = { r0 with txns := r.txns } := by
  unfold ctD at h
  simp only [Prod.mk.injEq] at h
  obtain ⟨rfl, h2⟩ := h
  obtain ⟨g1, g2⟩ := manyD_bk (f := ckTD) ckTD_bk (s := s) (x := (manyD ckTD s).1) (l' := l') (by rw [← h2])
  exact ⟨g1, rfl⟩
theorem cdD_bk {r0 : Rc} {s : RS3} {r : Rc} {l' : List UInt8} (h : cdD r0 s = (r, l', 0, false)) : s = (listB ckPB r.dirty ++ l', 0, false) ∧ r = { r0 with dirty := r.dirty } := by
  unfold cdD at h
  simp only [Prod.mk.injEq] at h
  obtain ⟨rfl, h2⟩ := h
  obtain ⟨g1, g2⟩ := manyD_bk (f := ckPD) ckPD_bk (s := s) (x := (manyD ckPD s).1) (l' := l') (by rw [← h2])
  exact ⟨g1, rfl⟩
theorem pair_eq {α : Type} {p : α × RS3} {l : List UInt8} (h : p.2 = (l, 0, false)) : p = (p.1, l, 0, false) := by rw [← h]
theorem tailD_bk {k : Int} {lsn : Nat} {txn : Int} {prev : Nat} {s : RS3} {r : Rc} {l' : List UInt8} (h : tailD ⟨k, lsn, txn, prev, 0, [], [], 0, [], []⟩ s = (r, l', 0, false)) : s = (recTB r ++ l', 0, false) ∧ (r.kind = k ∧ r.lsn = lsn ∧ r.txn = txn ∧ r.prev = prev) ∧ r = r.plain ∧ RcF r := by
  unfold tailD at h
  dsimp only at h
  have fin : ∀ r : Rc, r.ims = r.ims.map Im.plain → r = r.plain := fun r e => by
    obtain ⟨k, lsn, txn, prev, next, ims, steps, nt, txns, dirty⟩ := r
    dsimp only [Rc.plain] at e ⊢
    rw [← e]
  unfold recTB
  by_cases k2 : k = 2
  · rw [if_pos k2] at h
    obtain ⟨g1, g2, g3, g4⟩ := chD_bk h
    rw [g2]; dsimp only; rw [if_pos k2]
    rw [g2] at g1 g3 g4
    exact ⟨g1, ⟨rfl, rfl, rfl, rfl⟩, fin _ g3, ⟨g4, by simp⟩⟩
  · rw [if_neg k2] at h
    by_cases k3 : k = 3
    · rw [if_pos k3] at h
      obtain ⟨g1, g2⟩ := neD_bk h
      rw [g2]; dsimp only; rw [if_neg k2, if_pos k3]
      exact ⟨g1, ⟨rfl, rfl, rfl, rfl⟩, fin _ rfl, ⟨by simp, by simp⟩⟩
    · rw [if_neg k3] at h
      by_cases k4 : k = 4
      · rw [if_pos k4] at h
        obtain ⟨g1, g2, g3⟩ := doD_bk h
        obtain ⟨f1, f2⟩ := neD_bk (pair_eq g1)
        rw [f2] at g2
        generalize (neD ⟨k, lsn, txn, prev, 0, [], [], 0, [], []⟩ s).1 = r1 at *
        rw [g2]; dsimp only; rw [if_neg k2, if_neg k3, if_pos k4]
        exact ⟨by rw [f1, List.append_assoc], ⟨rfl, rfl, rfl, rfl⟩, fin _ rfl, ⟨by simp, g3⟩⟩
      · rw [if_neg k4] at h
        by_cases k5 : k = 5
        · rw [if_pos k5] at h
          obtain ⟨g1, g2, g3, g4⟩ := chD_bk h
          obtain ⟨f1, f2⟩ := neD_bk (pair_eq g1)
          rw [f2] at g2
          generalize (neD ⟨k, lsn, txn, prev, 0, [], [], 0, [], []⟩ s).1 = r1 at *
          rw [g2]; dsimp only; rw [if_neg k2, if_neg k3, if_neg k4, if_pos k5]
          have e : imsB r = imsB { (⟨k, lsn, txn, prev, r1.next, [], [], 0, [], []⟩ : Rc) with ims := r.ims } := by rw [← g2]
          dsimp only at e
          exact ⟨by rw [f1, List.append_assoc, e], ⟨rfl, rfl, rfl, rfl⟩, fin _ g3, ⟨g4, by simp⟩⟩
        · rw [if_neg k5] at h
          by_cases k9 : k = 9
          · rw [if_pos k9] at h
            obtain ⟨g1, g2⟩ := cdD_bk h
            obtain ⟨f1, f2⟩ := ctD_bk (pair_eq g1)
            obtain ⟨e1, e2⟩ := cxD_bk (pair_eq f1)
            generalize (thenD cxD ctD ⟨k, lsn, txn, prev, 0, [], [], 0, [], []⟩ s).1 = r2 at *
            generalize (cxD ⟨k, lsn, txn, prev, 0, [], [], 0, [], []⟩ s).1 = r1 at *
            obtain ⟨n1, hn⟩ : ∃ n : Int, r1 = { (⟨k, lsn, txn, prev, 0, [], [], 0, [], []⟩ : Rc) with nextTxn := n } := ⟨_, e2⟩
            subst hn
            obtain ⟨t1, ht⟩ : ∃ t, r2 = { (⟨k, lsn, txn, prev, 0, [], [], n1, [], []⟩ : Rc) with txns := t } := ⟨_, f2⟩
            subst ht
            obtain ⟨d1, hd⟩ : ∃ d, r = { (⟨k, lsn, txn, prev, 0, [], [], n1, t1, []⟩ : Rc) with dirty := d } := ⟨_, g2⟩
            subst hd
            dsimp only at e1 ⊢
            rw [if_neg k2, if_neg k3, if_neg k4, if_neg k5, if_pos k9]
            exact ⟨by rw [e1]; simp, ⟨rfl, rfl, rfl, rfl⟩, fin _ rfl, ⟨by simp, by simp⟩⟩
          · rw [if_neg k9] at h
            simp only [Prod.mk.injEq] at h
            obtain ⟨rfl, rfl⟩ := h
            dsimp only; rw [if_neg k2, if_neg k3, if_neg k4, if_neg k5, if_neg k9]
            exact ⟨rfl, ⟨rfl, rfl, rfl, rfl⟩, fin _ rfl, ⟨by simp, by simp⟩⟩
theorem dec_bk {l l' : List UInt8} {r : Rc} (h : decD l = (r, l', 0, false)) : l = recB r ++ l' ∧ r = r.plain ∧ RcF r := by
  unfold decD at h
  have hh : ∃ r0 s0, headD (l, 0, false) = (r0, s0) := ⟨_, _, rfl⟩
  obtain ⟨r0, s0, e0⟩ := hh
  rw [e0] at h
  dsimp only at h
  have hr0 : ∃ k lsn txn prev, r0 = ⟨k, lsn, txn, prev, 0, [], [], 0, [], []⟩ := by
    unfold headD hdL hdT hdP at e0
    simp only [Prod.mk.injEq] at e0
    exact ⟨_, _, _, _, e0.1.symm⟩
  obtain ⟨k, lsn, txn, prev, rfl⟩ := hr0
  obtain ⟨g1, ⟨g2, g3, g4, g5⟩, g6, g7⟩ := tailD_bk h
  subst g1
  obtain ⟨f1, f2⟩ := headD_bk e0
  simp only [Prod.mk.injEq] at f1
  refine ⟨?_, g6, g7⟩
  rw [f1.1]
  unfold recB recHB
  rw [g2, g3, g4, g5]
  simp
theorem imB_plain (two : Bool) (x : Im) : imB two x.plain = imB two x := rfl
theorem recB_plain (r : Rc) : recB r.plain = recB r := by
  unfold recB recTB imsB listB
  dsimp only [Rc.plain]
  rw [List.length_map, List.flatMap_map]
  rfl
theorem up_map {α β : Type} (g : α → β) (right : β → Bool) (by' : β → Int) (l : List α) : ∀ k, upB right by' (l.map g) k = upB (fun x => right (g x)) (fun x => by' (g x)) l k := by
  intro k
  unfold upB
  rw [List.length_map]
  generalize l.length = m
  induction k with
  | zero => simp [risesB]
  | succ k ih =>
    rw [risesB, risesB, ih]
    simp only [List.getElem?_map]
    cases l[k]? with
    | none => rfl
    | some x => cases l[k - 1]? <;> rfl
theorem recOk_plain (r : Rc) : recOk r.plain = recOk r := by
  unfold recOk headOk askOk bareOk imsOk
  dsimp only [Rc.plain]
  simp only [List.length_map, up_map, List.map_eq_nil_iff]
  rfl
theorem dec_enc {r : Rc} (h : recOk r = true) (hf : RcF r) : decOk (recB r) = true ∧ decR (recB r) = r.plain := by
  have := dec_fw h hf []
  rw [List.append_nil] at this
  have e : decOk (recB r) = true := by
    unfold decOk
    rw [this]
    simp only [recOk_plain, h]
    rfl
  refine ⟨e, ?_⟩
  unfold decR
  rw [if_pos e, this]
theorem okS_iff {s : RS3} (h : okS s = true) : s.2 = (0, false) := by
  obtain ⟨l, st, bad⟩ := s
  unfold okS at h
  rw [Bool.and_eq_true, decide_eq_true_eq] at h
  obtain ⟨h1, h2⟩ := h
  cases bad
  · dsimp only at h2; rw [h2]
  · cases h1
theorem enc_dec {l : List UInt8} (h : decOk l = true) : recOk (decR l) = true ∧ recB (decR l) = l ∧ RcF (decR l) ∧ decR l = (decR l).plain ∧ decD l = (decR l, [], 0, false) := by
  unfold decR
  rw [if_pos h]
  unfold decOk at h
  rw [Bool.and_eq_true, Bool.and_eq_true, decide_eq_true_eq] at h
  obtain ⟨h1, h2, h3⟩ := h
  have e : decD l = ((decD l).1, [], 0, false) := by
    have g1 := okS_iff h1
    have g2 := List.eq_nil_of_length_eq_zero h2
    rw [← g2, ← g1]
  obtain ⟨k1, k2, k3⟩ := dec_bk e
  rw [List.append_nil] at k1
  exact ⟨h3, k1.symm, k3, k2, e⟩
end Go.Proofs.E

namespace Go.Proofs.E
open Go
set_option linter.unusedVariables false
set_option linter.unusedSimpArgs false
set_option linter.unusedSectionVars false
set_option maxRecDepth 4000
set_option maxHeartbeats 1000000
attribute [local irreducible] Yl TL TC TE Spec YSpec R1 Hp.le EnvLe TS TR YS Stays
theorem stpB_len {s : Stp} (h : stepOk s = true) : (stpB s).length ≤ 21 := by
  unfold stpB
  by_cases h23 : s.kind = 2 ∨ s.kind = 3
  · rw [if_pos h23]
    have hr : rowOk s.row = true := by
      unfold stepOk at h
      rw [if_neg (by omega), if_neg (by omega), if_pos h23, Bool.and_eq_true] at h
      exact h.2
    have := rowB_le hr
    simp; omega
  · rw [if_neg h23]
    split <;> simp [be_length]
theorem ckTB_len (t : CkT) : (ckTB t).length = 29 := by simp [ckTB, be_length]
theorem ckPB_len (p : CkP) : (ckPB p).length = 9 := by simp [ckPB, be_length]
theorem step_kinds {s : Stp} (h : stepOk s = true) : (s.kind = 1 ∨ s.kind = 2 ∨ s.kind = 3 ∨ s.kind = 4) ∧ ((s.kind = 2 ∨ s.kind = 3) → rowOk s.row = true) ∧ (¬ (s.kind = 2 ∨ s.kind = 3) → 0 ≤ s.row.t ∧ s.row.t < 3) := by
  unfold stepOk at h
  by_cases h1 : s.kind = 1
  · rw [if_pos h1] at h
    unfold onlyOk at h
    rw [Bool.and_eq_true, decide_eq_true_eq, decide_eq_true_eq] at h
    exact ⟨.inl h1, fun e => by omega, fun _ => h.2⟩
  · rw [if_neg h1] at h
    by_cases h4 : s.kind = 4
    · rw [if_pos h4] at h
      unfold onlyOk at h
      rw [Bool.and_eq_true, Bool.and_eq_true, decide_eq_true_eq, decide_eq_true_eq] at h
      exact ⟨by omega, fun e => by omega, fun _ => h.1.2⟩
    · rw [if_neg h4] at h
      by_cases h23 : s.kind = 2 ∨ s.kind = 3
      · rw [if_pos h23, Bool.and_eq_true] at h
        exact ⟨by omega, fun _ => h.2, fun e => absurd h23 e⟩
      · rw [if_neg h23] at h; cases h
theorem wdone_spec (ρ : Hp) (wb : Nat) (v : RV) (r : Rc) (w : Value) (l : List UInt8) (sp : List Value) (hown : OwnB w l sp) (hn : l.length ≤ 70000) (h : RcIn ρ v r) (hL : LayOk r) :
    Spec Tryz.prog 173 [.pointer (some ⟨wb, 0, none⟩)] ρ [bytC w l sp, wrC wb v r w] (WrP ρ wb v r (l ++ (be 8 r.next ++ listB stpB r.steps))) := by
  have hρ := Hp.le_refl ρ
  have hA := h.s.at'
  have hl := hA.len
  have hil := hL.sl
  refine spec_enter Tryz.func173 rfl rfl rfl fun u R => ?_
  simp only [argsE, List.cons_append, List.nil_append]
  repeat' (first | (refine tl_buildSlice_s rfl rfl rfl rfl (by simp) rfl rfl (fun bs => ?_); refine tl_freeze _ (h := Rem.here) (fun ρz hlz hfz => ?_); have hbs := hfz _ (List.mem_singleton.2 rfl); clear hfz; have hρ := Hp.le_trans hρ hlz; clear hlz; (try simp only [List.nil_append])) | (refine tl_is (.func 172) ?_; refine qC rfl rfl (wnested_spec _ wb v r w l sp hown (by omega) hL.next) ?_; rintro v ρ' L' hle ⟨rfl, hl1, w0, sp0, hown, rfl⟩ <;> (try simp only [kM, kN, kO]); have hρ := Hp.le_trans hρ hl1; clear hl1) | (refine tl_is (.func 168) ?_; refine qC rfl rfl (wbyte_spec _ wb v r w0 _ sp0 hown (by simp only [List.length_append, List.length_cons, List.length_nil, List.length_map, be_length]; omega) _ (v.s.n : Int) hbs (by omega)) ?_; rintro v ρ' L' hle ⟨rfl, hl1, w1, sp1, hown, rfl⟩ <;> (try simp only [kM, kN, kO]); have hρ := Hp.le_trans hρ hl1; clear hl1) | (refine i_op ?_; first | (refine i_qq ?_; refine qQ ?_) | refine qEf ?_) | refine tl_nil ?_ | (refine i_tc ?_; refine qTc ?_) | (refine i_te ?_; refine qTe ?_) | intro _)
  obtain ⟨B, hB⟩ : ∃ B, l ++ be 8 r.next ++ [tB (v.s.n : Int)] = B := ⟨_, rfl⟩
  rw [hB] at hown ⊢
  have hBl : B.length ≤ 80001 := by rw [← hB]; simp [be_length]; omega
  have hfin : B ++ r.steps.flatMap stpB = l ++ (be 8 r.next ++ listB stpB r.steps) := by rw [← hB]; simp [listB, hl, tB]
  rw [show bytC w1 B sp1 = bytC w1 (B ++ (r.steps.take 0).flatMap stpB) sp1 by simp]
  refine tc_loop_g [(0, _), (21, _), (22, _)] (fun (ζ : (Nat) × (Hp) × (Value) × (List Value)) => [(23, .int .i64 ζ.1)]) (fun (ζ : (Nat) × (Hp) × (Value) × (List Value)) => ζ.2.1) (fun (ζ : (Nat) × (Hp) × (Value) × (List Value)) => [bytC ζ.2.2.1 (B ++ (r.steps.take ζ.1).flatMap stpB) ζ.2.2.2, wrC wb v r ζ.2.2.1]) (fun (ζ : (Nat) × (Hp) × (Value) × (List Value)) => ζ.1 ≤ v.s.n ∧ ρ.le ζ.2.1 ∧ OwnB ζ.2.2.1 (B ++ (r.steps.take ζ.1).flatMap stpB) ζ.2.2.2) (fun (ζ : (Nat) × (Hp) × (Value) × (List Value)) => v.s.n - ζ.1) ((0, ρ', w1, sp1)) (⟨Nat.zero_le _, hρ, by simpa using hown⟩) ev_le ev_le rfl tk ?_
  rintro ⟨k, ρ1, w2, sp2⟩ hI
  try simp only [List.cons_append, List.nil_append, List.append_assoc, List.append_eq] at hI ⊢
  try dsimp only at hI ⊢
  obtain ⟨hk, hle1, hown⟩ := hI
  clear hρ
  by_cases hlt : k < v.s.n
  · obtain ⟨b, off, C, T, fr, e1, hbb, hfit, hcc⟩ := (hA.mono hle1).get (show k < r.steps.length by omega)
    have hts := flatMap_app stpB r.steps k (by omega)
    have hmem := List.getElem_mem (show k < r.steps.length by omega)
    have hsf := h.sf _ hmem
    obtain ⟨hk4, hr23, hkt⟩ := step_kinds (hL.st _ hmem)
    have hfl := flatMap_le stpB 21 (r.steps.take k) (fun x hx => stpB_len (hL.st x (List.mem_of_mem_take hx)))
    have htl : (r.steps.take k).length ≤ 2 := by simp; omega
    generalize r.steps[k]'(by omega) = x at *
    have hxl : (B ++ (r.steps.take k).flatMap stpB).length ≤ 83000 := by simp only [List.length_append]; omega
    have hmm : B ++ (r.steps.take k).flatMap stpB ++ stpB x = B ++ (r.steps.take (k + 1)).flatMap stpB := by rw [hts]; simp
    generalize hX : B ++ (r.steps.take k).flatMap stpB = X at *
    have hρ := Hp.le_refl ρ1
    rw [e1]
    by_cases h23 : x.kind = 2 ∨ x.kind = 3
    · have hst : stpB x = tB x.kind :: rowB x.row := by unfold stpB; rw [if_pos h23]
      have hre := fun ρ => rowE_spec ρ x.row hsf.id
      have hrl := rowB_le (hr23 h23)
      rw [if_pos (hr23 h23), if_pos (hr23 h23)] at hre
      have hmm2 : (X ++ [tB x.kind]).map u8c ++ (rowB x.row).map u8c = (B ++ (r.steps.take (k + 1)).flatMap stpB).map u8c := by rw [← hmm, hst]; simp
      have hll2 : (X ++ [tB x.kind]).length + (rowB x.row).length = (B ++ (r.steps.take (k + 1)).flatMap stpB).length := by rw [← hmm, hst]; simp; omega
      have hx1 : (X ++ [tB x.kind]).length ≤ 84000 := by simp; omega
      rcases h23 with h2 | h2
      all_goals (repeat' (first | (refine tl_buildSlice_s rfl rfl rfl rfl (by simp) rfl rfl (fun bs => ?_); refine tl_freeze _ (h := Rem.here) (fun ρz hlz hfz => ?_); have hbs := hfz _ (List.mem_singleton.2 rfl); clear hfz; have hρ := Hp.le_trans hρ hlz; clear hlz; (try simp only [List.nil_append])) | (refine tl_is (.func 168) ?_; refine qC rfl rfl (wbyte_spec _ wb v r w2 X sp2 hown (by omega) _ x.kind hbs (by omega)) ?_; rintro v ρ' L' hle ⟨rfl, hl1, w3, sp3, hown, rfl⟩ <;> (try simp only [kM, kN, kO]); have hρ := Hp.le_trans hρ hl1; clear hl1; obtain ⟨va, vc, rfl, _⟩ := hown.slice) | (refine tl_is (.func 228) ?_; refine qC rfl rfl (hre _) ?_; rintro v ρ' L' hle ⟨hl1, a1, n1, c1, rfl, hc1, hs1, rfl⟩ <;> (try simp only [kM, kN, kO]); have hρ := Hp.le_trans hρ hl1; clear hl1) | (have hn1 := hs1.len; refine tl_app (ys := (rowB x.row).map u8c) (m := n1) (sz := 1) rfl rfl hown (hR := by infer_instance) (SIn.srcV hs1) (by simpa using hs1.len) (u8c_one _) (by decide) rfl (by omega) (by omega) rfl (fun v' sp' hown' => ?_); rw [hmm2] at hown' ⊢; rw [← hs1.len, hll2] at hown'; obtain ⟨va', vc', rfl, _⟩ := hown'.slice) | (refine i_op ?_; first | (refine i_qq ?_; refine qQ ?_) | refine qEf ?_) | refine tl_nil ?_ | (refine i_tc ?_; refine qTc ?_) | (refine i_te ?_; refine qTe ?_) | intro _))
      all_goals rw [← e1]
      all_goals refine te_round_g (k + 1, _, _, sp') (⟨hlt, Hp.le_trans hle1 hρ, hown'⟩) ev_le ev_le rfl tk inferInstance (by first | omega | (dsimp only; omega))
    · have hkt := hkt h23
      have hst : stpB x = tB x.kind :: (tB x.row.t :: (be 2 x.row.id ++ (if x.kind = 1 then be 8 (vN x.by') else []))) := by unfold stpB; rw [if_neg h23]
      have hll2 : (X ++ [tB x.kind] ++ [tB x.row.t]).length + 2 = (X ++ [tB x.kind] ++ [tB x.row.t] ++ be 2 x.row.id).length := by simp [be_length]
      rcases (show x.kind = 1 ∨ x.kind = 4 by omega) with h1 | h1
      · rw [if_pos h1] at hst
        have hvl := vN_lt x.by'
        repeat' (first | (refine tl_buildSlice_s rfl rfl rfl rfl (by simp) rfl rfl (fun bs => ?_); refine tl_freeze _ (h := Rem.here) (fun ρz hlz hfz => ?_); have hbs := hfz _ (List.mem_singleton.2 rfl); clear hfz; have hρ := Hp.le_trans hρ hlz; clear hlz; (try simp only [List.nil_append])) | (refine tl_is (.func 168) ?_; refine qC rfl rfl (wbyte_spec _ wb v r w2 X sp2 hown (by omega) _ x.kind hbs (by omega)) ?_; rintro v ρ' L' hle ⟨rfl, hl1, w3, sp3, hown, rfl⟩ <;> (try simp only [kM, kN, kO]); have hρ := Hp.le_trans hρ hl1; clear hl1; obtain ⟨va, vc, rfl, _⟩ := hown.slice) | (refine tl_is (.func 168) ?_; refine qC rfl rfl (wbyte_spec _ wb v r _ _ sp3 hown (by simp only [List.length_append, List.length_cons, List.length_nil, List.length_map, be_length]; omega) _ x.row.t hbs (by omega)) ?_; rintro v ρ' L' hle ⟨rfl, hl1, w4, sp4, hown, rfl⟩ <;> (try simp only [kM, kN, kO]); have hρ := Hp.le_trans hρ hl1; clear hl1; obtain ⟨va, vc, rfl, _⟩ := hown.slice) | (refine i_op ?_; first | (refine i_qq ?_; refine qQ ?_) | refine qEf ?_) | refine tl_nil ?_ | (refine i_tc ?_; refine qTc ?_) | (refine i_te ?_; refine qTe ?_) | intro _)
        refine tc_any (Stays _ _ ([[(_, .cells ⟨stpV x⟩ 62 (0, 0))]])) (stays_of (hT := tk) (Hp.le_refl _)) ?_
        all_goals refine rMv 0 ?_
        all_goals refine rMv 1 ?_
        all_goals refine rNc 2 ?_
        all_goals refine rFa 3 ?_
        all_goals refine rFa 5 ?_
        all_goals refine rFa 6 ?_
        all_goals refine rFa 7 ?_
        all_goals refine rLd 8 ?_
        all_goals (refine rStep (i := 4) ?_; ((try refine qWant ?_); (first | (refine tl_is (.func 229) ?_; refine tl_freeze (bytC (.slice va (X ++ [tB x.kind] ++ [tB x.row.t]).length vc) (X ++ [tB x.kind] ++ [tB x.row.t]) sp4) (h := by repeat (first | exact rem_here' | apply rem_there')) (fun ρ2 hle2 hfz => ?_); obtain ⟨a1, c1, f1, hc1, hs1⟩ := hown.sIn hfz; cases f1; refine qC rfl rfl (put16_spec _ va _ vc _ hs1 x.row.id hsf.id (by simp only [List.length_append, List.length_cons, List.length_nil, List.length_map, be_length]; omega)) ?_; rintro v' ρ3 L3 hle3 ⟨rfl, sp5, hown, rfl⟩; simp only [List.cons_append, List.nil_append]; rw [hll2] at hown; obtain ⟨va, vc, rfl, _⟩ := hown.slice; have hρ := Hp.le_trans hρ hle2) | (refine i_qq ?_; refine qQ ?_) | (refine qEf ?_; try intro _)) <;> ((try simp only [kM, kN, kO]); refine tl_nil ?_; refine rNext ?_)))
        all_goals (refine rStep (i := 9) ?_; ((try refine qWant ?_); (first | (refine tl_is (.func 229) ?_; refine tl_freeze (bytC (.slice va (X ++ [tB x.kind] ++ [tB x.row.t]).length vc) (X ++ [tB x.kind] ++ [tB x.row.t]) sp4) (h := by repeat (first | exact rem_here' | apply rem_there')) (fun ρ2 hle2 hfz => ?_); obtain ⟨a1, c1, f1, hc1, hs1⟩ := hown.sIn hfz; cases f1; refine qC rfl rfl (put16_spec _ va _ vc _ hs1 x.row.id hsf.id (by simp only [List.length_append, List.length_cons, List.length_nil, List.length_map, be_length]; omega)) ?_; rintro v' ρ3 L3 hle3 ⟨rfl, sp5, hown, rfl⟩; simp only [List.cons_append, List.nil_append]; rw [hll2] at hown; obtain ⟨va, vc, rfl, _⟩ := hown.slice; have hρ := Hp.le_trans hρ hle2) | (refine i_qq ?_; refine qQ ?_) | (refine qEf ?_; try intro _)) <;> ((try simp only [kM, kN, kO]); refine tl_nil ?_; refine rNext ?_)))
        all_goals refine rNc 10 ?_
        all_goals refine rFa 11 ?_
        all_goals (refine rStep (i := 12) ?_; ((try refine qWant ?_); (first | (refine i_qq ?_; refine qQ ?_) | (refine qEf ?_; try intro _)) <;> ((try simp only [kM, kN, kO]); refine tl_nil ?_; refine rNext ?_)))
        all_goals refine rDone ?_
        all_goals (repeat' (first | (simp only [vN_eq]; refine tl_buildSlice_s rfl rfl rfl rfl (by simp) rfl rfl (fun bs => ?_); refine tl_freeze _ (h := Rem.here) (fun ρz hlz hfz => ?_); have hbs := hfz _ (List.mem_singleton.2 rfl); clear hfz; have hρ := Hp.le_trans hρ hlz; clear hlz; (try simp only [List.nil_append])) | (refine tl_is (.func 169) ?_; refine qC rfl rfl (wlong_spec _ wb v r _ _ sp5 hown (by simp only [List.length_append, List.length_cons, List.length_nil, List.length_map, be_length]; omega) _ (vN x.by') hbs hvl) ?_; rintro v ρ' L' hle ⟨rfl, hl1, w6, sp6, hown, rfl⟩ <;> (try simp only [kM, kN, kO]); have hρ := Hp.le_trans hρ hl1; clear hl1; obtain ⟨va, vc, rfl, _⟩ := hown.slice) | (refine i_op ?_; first | (refine i_qq ?_; refine qQ ?_) | refine qEf ?_) | refine tl_nil ?_ | (refine i_tc ?_; refine qTc ?_) | (refine i_te ?_; refine qTe ?_) | intro _))
        all_goals rw [← e1]
        all_goals have e2 : X ++ [tB x.kind] ++ [tB x.row.t] ++ be 2 x.row.id ++ be 8 (vN x.by') = B ++ (r.steps.take (k + 1)).flatMap stpB := by rw [← hmm, hst]; simp
        all_goals rw [e2] at hown ⊢
        all_goals refine te_round_g (k + 1, _, _, sp6) (⟨hlt, Hp.le_trans hle1 hρ, hown⟩) ev_le ev_le rfl tk inferInstance (by first | omega | (dsimp only; omega))
      · rw [if_neg (by omega)] at hst
        repeat' (first | (refine tl_buildSlice_s rfl rfl rfl rfl (by simp) rfl rfl (fun bs => ?_); refine tl_freeze _ (h := Rem.here) (fun ρz hlz hfz => ?_); have hbs := hfz _ (List.mem_singleton.2 rfl); clear hfz; have hρ := Hp.le_trans hρ hlz; clear hlz; (try simp only [List.nil_append])) | (refine tl_is (.func 168) ?_; refine qC rfl rfl (wbyte_spec _ wb v r w2 X sp2 hown (by omega) _ x.kind hbs (by omega)) ?_; rintro v ρ' L' hle ⟨rfl, hl1, w3, sp3, hown, rfl⟩ <;> (try simp only [kM, kN, kO]); have hρ := Hp.le_trans hρ hl1; clear hl1; obtain ⟨va, vc, rfl, _⟩ := hown.slice) | (refine tl_is (.func 168) ?_; refine qC rfl rfl (wbyte_spec _ wb v r _ _ sp3 hown (by simp only [List.length_append, List.length_cons, List.length_nil, List.length_map, be_length]; omega) _ x.row.t hbs (by omega)) ?_; rintro v ρ' L' hle ⟨rfl, hl1, w4, sp4, hown, rfl⟩ <;> (try simp only [kM, kN, kO]); have hρ := Hp.le_trans hρ hl1; clear hl1; obtain ⟨va, vc, rfl, _⟩ := hown.slice) | (refine i_op ?_; first | (refine i_qq ?_; refine qQ ?_) | refine qEf ?_) | refine tl_nil ?_ | (refine i_tc ?_; refine qTc ?_) | (refine i_te ?_; refine qTe ?_) | intro _)
        refine tc_any (Stays _ _ ([[(_, .cells ⟨stpV x⟩ 62 (0, 0))]])) (stays_of (hT := tk) (Hp.le_refl _)) ?_
        all_goals refine rMv 0 ?_
        all_goals refine rMv 1 ?_
        all_goals refine rNc 2 ?_
        all_goals refine rFa 3 ?_
        all_goals refine rFa 5 ?_
        all_goals refine rFa 6 ?_
        all_goals refine rFa 7 ?_
        all_goals refine rLd 8 ?_
        all_goals (refine rStep (i := 4) ?_; ((try refine qWant ?_); (first | (refine tl_is (.func 229) ?_; refine tl_freeze (bytC (.slice va (X ++ [tB x.kind] ++ [tB x.row.t]).length vc) (X ++ [tB x.kind] ++ [tB x.row.t]) sp4) (h := by repeat (first | exact rem_here' | apply rem_there')) (fun ρ2 hle2 hfz => ?_); obtain ⟨a1, c1, f1, hc1, hs1⟩ := hown.sIn hfz; cases f1; refine qC rfl rfl (put16_spec _ va _ vc _ hs1 x.row.id hsf.id (by simp only [List.length_append, List.length_cons, List.length_nil, List.length_map, be_length]; omega)) ?_; rintro v' ρ3 L3 hle3 ⟨rfl, sp5, hown, rfl⟩; simp only [List.cons_append, List.nil_append]; rw [hll2] at hown; obtain ⟨va, vc, rfl, _⟩ := hown.slice; have hρ := Hp.le_trans hρ hle2) | (refine i_qq ?_; refine qQ ?_) | (refine qEf ?_; try intro _)) <;> ((try simp only [kM, kN, kO]); refine tl_nil ?_; refine rNext ?_)))
        all_goals (refine rStep (i := 9) ?_; ((try refine qWant ?_); (first | (refine tl_is (.func 229) ?_; refine tl_freeze (bytC (.slice va (X ++ [tB x.kind] ++ [tB x.row.t]).length vc) (X ++ [tB x.kind] ++ [tB x.row.t]) sp4) (h := by repeat (first | exact rem_here' | apply rem_there')) (fun ρ2 hle2 hfz => ?_); obtain ⟨a1, c1, f1, hc1, hs1⟩ := hown.sIn hfz; cases f1; refine qC rfl rfl (put16_spec _ va _ vc _ hs1 x.row.id hsf.id (by simp only [List.length_append, List.length_cons, List.length_nil, List.length_map, be_length]; omega)) ?_; rintro v' ρ3 L3 hle3 ⟨rfl, sp5, hown, rfl⟩; simp only [List.cons_append, List.nil_append]; rw [hll2] at hown; obtain ⟨va, vc, rfl, _⟩ := hown.slice; have hρ := Hp.le_trans hρ hle2) | (refine i_qq ?_; refine qQ ?_) | (refine qEf ?_; try intro _)) <;> ((try simp only [kM, kN, kO]); refine tl_nil ?_; refine rNext ?_)))
        all_goals refine rNc 10 ?_
        all_goals refine rFa 11 ?_
        all_goals (refine rStep (i := 12) ?_; ((try refine qWant ?_); (first | (refine i_qq ?_; refine qQ ?_) | (refine qEf ?_; try intro _)) <;> ((try simp only [kM, kN, kO]); refine tl_nil ?_; refine rNext ?_)))
        all_goals refine rDone ?_
        all_goals (repeat' (first | (refine i_op ?_; first | (refine i_qq ?_; refine qQ ?_) | refine qEf ?_) | refine tl_nil ?_ | (refine i_tc ?_; refine qTc ?_) | (refine i_te ?_; refine qTe ?_) | intro _))
        all_goals rw [← e1]
        all_goals have e2 : X ++ [tB x.kind] ++ [tB x.row.t] ++ be 2 x.row.id = B ++ (r.steps.take (k + 1)).flatMap stpB := by rw [← hmm, hst]; simp
        all_goals rw [e2] at hown ⊢
        all_goals refine te_round_g (k + 1, _, _, sp5) (⟨hlt, Hp.le_trans hle1 hρ, hown⟩) ev_le ev_le rfl tk inferInstance (by first | omega | (dsimp only; omega))
  · rw [show r.steps.take k = r.steps by rw [show k = r.steps.length by omega, List.take_length], hfin] at hown ⊢
    repeat' (first | (refine i_op ?_; first | (refine i_qq ?_; refine qQ ?_) | refine qEf ?_) | refine tl_nil ?_ | (refine i_tc ?_; refine qTc ?_) | (refine i_te ?_; refine qTe ?_) | intro _)
    exact qE ⟨rfl, hle1, w2, sp2, hown, rfl⟩
end Go.Proofs.E

namespace Go.Proofs.E
open Go
set_option linter.unusedVariables false
set_option linter.unusedSimpArgs false
set_option linter.unusedSectionVars false
set_option maxRecDepth 4000
set_option maxHeartbeats 1000000
attribute [local irreducible] Yl TL TC TE Spec YSpec R1 Hp.le EnvLe TS TR YS Stays
-- BN
theorem wckpt_spec (ρ : Hp) (wb : Nat) (v : RV) (r : Rc) (w : Value) (l : List UInt8) (sp : List Value) (hown : OwnB w l sp) (hn : l.length ≤ 70000) (h : RcIn ρ v r) (hL : LayOk r) :
    Spec Tryz.prog 175 [.pointer (some ⟨wb, 0, none⟩)] ρ [bytC w l sp, wrC wb v r w] (WrP ρ wb v r (l ++ (be 4 r.nextTxn.toNat ++ (listB ckTB r.txns ++ listB ckPB r.dirty)))) := by
  have hρ := Hp.le_refl ρ
  have hA := h.t.at'
  have hl := hA.len
  have hA2 := h.d.at'
  have hl2 := hA2.len
  have hil := hL.tl
  have hil2 := hL.dl
  refine spec_enter Tryz.func175 rfl rfl rfl fun u R => ?_
  simp only [argsE, List.cons_append, List.nil_append]
  repeat' (first | (refine tl_buildSlice_s rfl rfl rfl rfl (by simp) rfl rfl (fun bs => ?_); refine tl_freeze _ (h := Rem.here) (fun ρz hlz hfz => ?_); have hbs := hfz _ (List.mem_singleton.2 rfl); clear hfz; have hρ := Hp.le_trans hρ hlz; clear hlz; (try simp only [List.nil_append])) | (refine tl_is (.func 170) ?_; refine qC rfl rfl (wtxn_spec _ wb v r w l sp hown (by omega) r.nextTxn hL.nextTxn) ?_; rintro v ρ' L' hle ⟨rfl, hl1, w0, sp0, hown, rfl⟩ <;> (try simp only [kM, kN, kO]); have hρ := Hp.le_trans hρ hl1; clear hl1) | (refine tl_is (.func 168) ?_; refine qC rfl rfl (wbyte_spec _ wb v r w0 _ sp0 hown (by simp only [List.length_append, List.length_cons, List.length_nil, List.length_map, be_length]; omega) _ (v.t.n : Int) hbs (by omega)) ?_; rintro v ρ' L' hle ⟨rfl, hl1, w1, sp1, hown, rfl⟩ <;> (try simp only [kM, kN, kO]); have hρ := Hp.le_trans hρ hl1; clear hl1) | (refine iBu ?_; refine tl_y (y_buildN rfl) rfl rfl ?_) | (refine i_op ?_; first | (refine i_qq ?_; refine qQ ?_) | refine qEf ?_) | refine tl_nil ?_ | (refine i_tc ?_; refine qTc ?_) | (refine i_te ?_; refine qTe ?_) | intro _)
  obtain ⟨B, hB⟩ : ∃ B, l ++ be 4 r.nextTxn.toNat ++ [tB (v.t.n : Int)] = B := ⟨_, rfl⟩
  rw [hB] at hown ⊢
  have hBl : B.length ≤ 80001 := by rw [← hB]; simp [be_length]; omega
  have hfin : B ++ r.txns.flatMap ckTB = l ++ (be 4 r.nextTxn.toNat ++ listB ckTB r.txns) := by rw [← hB]; simp [listB, hl, tB]
  rw [show bytC w1 B sp1 = bytC w1 (B ++ (r.txns.take 0).flatMap ckTB) sp1 by simp]
  refine tc_loop_g [(0, _), (26, _), (27, _)] (fun (ζ : (Nat) × (Hp) × (Value) × (List Value)) => [(28, .int .i64 ζ.1)]) (fun (ζ : (Nat) × (Hp) × (Value) × (List Value)) => ζ.2.1) (fun (ζ : (Nat) × (Hp) × (Value) × (List Value)) => [bytC ζ.2.2.1 (B ++ (r.txns.take ζ.1).flatMap ckTB) ζ.2.2.2, wrC wb v r ζ.2.2.1]) (fun (ζ : (Nat) × (Hp) × (Value) × (List Value)) => ζ.1 ≤ v.t.n ∧ ρ.le ζ.2.1 ∧ OwnB ζ.2.2.1 (B ++ (r.txns.take ζ.1).flatMap ckTB) ζ.2.2.2) (fun (ζ : (Nat) × (Hp) × (Value) × (List Value)) => v.t.n - ζ.1) ((0, ρ', w1, sp1)) (⟨Nat.zero_le _, hρ, by simpa using hown⟩) ev_le ev_le rfl tk ?_
  rintro ⟨k, ρ1, w2, sp2⟩ hI
  try simp only [List.cons_append, List.nil_append, List.append_assoc, List.append_eq] at hI ⊢
  try dsimp only at hI ⊢
  obtain ⟨hk, hle1, hown⟩ := hI
  clear hρ
  by_cases hlt : k < v.t.n
  · obtain ⟨b, off, C, T, fr, e1, hbb, hfit, hcc⟩ := (hA.mono hle1).get (show k < r.txns.length by omega)
    have hts := flatMap_app ckTB r.txns k (by omega)
    have hmem := List.getElem_mem (show k < r.txns.length by omega)
    obtain ⟨g1, g2, g3, g4, g5⟩ := hL.tx _ hmem
    have hfl := flatMap_le ckTB 29 (r.txns.take k) (fun x _ => Nat.le_of_eq (ckTB_len x))
    have htl : (r.txns.take k).length ≤ 8 := by simp; omega
    generalize r.txns[k]'(by omega) = x at *
    have hxl : (B ++ (r.txns.take k).flatMap ckTB).length ≤ 83000 := by simp only [List.length_append]; omega
    have hmm : B ++ (r.txns.take k).flatMap ckTB ++ ckTB x = B ++ (r.txns.take (k + 1)).flatMap ckTB := by rw [hts]; simp
    generalize hX : B ++ (r.txns.take k).flatMap ckTB = X at *
    have hρ := Hp.le_refl ρ1
    rw [e1]
    repeat' (first | (refine tl_buildSlice_s rfl rfl rfl rfl (by simp) rfl rfl (fun bs => ?_); refine tl_freeze _ (h := Rem.here) (fun ρz hlz hfz => ?_); have hbs := hfz _ (List.mem_singleton.2 rfl); clear hfz; have hρ := Hp.le_trans hρ hlz; clear hlz; (try simp only [List.nil_append])) | (refine tl_is (.func 170) ?_; refine qC rfl rfl (wtxn_spec _ wb v r w2 X sp2 hown (by omega) x.txn g1) ?_; rintro v ρ' L' hle ⟨rfl, hl1, w3, sp3, hown, rfl⟩ <;> (try simp only [kM, kN, kO]); have hρ := Hp.le_trans hρ hl1; clear hl1) | (refine tl_is (.func 169) ?_; refine qC rfl rfl (wlong3_spec _ wb v r w3 _ sp3 hown (by simp only [List.length_append, List.length_cons, List.length_nil, List.length_map, be_length]; omega) _ x.first x.last x.undo hbs g2 g3 g4) ?_; rintro v ρ' L' hle ⟨rfl, hl1, w4, sp4, hown, rfl⟩ <;> (try simp only [kM, kN, kO]); have hρ := Hp.le_trans hρ hl1; clear hl1) | (refine tl_is (.func 168) ?_; refine qC rfl rfl (wbyte_spec _ wb v r w4 _ sp4 hown (by simp only [List.length_append, List.length_cons, List.length_nil, List.length_map, be_length]; omega) _ x.state hbs g5) ?_; rintro v ρ' L' hle ⟨rfl, hl1, w5, sp5, hown, rfl⟩ <;> (try simp only [kM, kN, kO]); have hρ := Hp.le_trans hρ hl1; clear hl1) | (refine iBu ?_; refine tl_y (y_buildN rfl) rfl rfl ?_) | (refine i_op ?_; first | (refine i_qq ?_; refine qQ ?_) | refine qEf ?_) | refine tl_nil ?_ | (refine i_tc ?_; refine qTc ?_) | (refine i_te ?_; refine qTe ?_) | intro _)
    rw [← e1]
    have e2 : X ++ be 4 x.txn.toNat ++ (be 8 x.first ++ (be 8 x.last ++ be 8 x.undo)) ++ [tB x.state] = B ++ (r.txns.take (k + 1)).flatMap ckTB := by rw [← hmm]; simp [ckTB]
    rw [e2] at hown ⊢
    refine te_round_g (k + 1, _, w5, sp5) (⟨hlt, Hp.le_trans hle1 hρ, hown⟩) ev_le ev_le rfl tk inferInstance (by first | omega | (dsimp only; omega))
  · rw [show r.txns.take k = r.txns by rw [show k = r.txns.length by omega, List.take_length], hfin] at hown ⊢
    have hρ := hle1
    obtain ⟨B2, hB2⟩ : ∃ B2, l ++ (be 4 r.nextTxn.toNat ++ listB ckTB r.txns) = B2 := ⟨_, rfl⟩
    have hlT : (listB ckTB r.txns).length ≤ 300 := by
      have := flatMap_le ckTB 29 r.txns (fun x _ => Nat.le_of_eq (ckTB_len x))
      unfold listB; rw [List.length_cons]; omega
    have hB2l : B2.length ≤ 71000 := by rw [← hB2]; simp [be_length]; omega
    rw [hB2] at hown ⊢
    repeat' (first | (refine tl_buildSlice_s rfl rfl rfl rfl (by simp) rfl rfl (fun bs => ?_); refine tl_freeze _ (h := Rem.here) (fun ρz hlz hfz => ?_); have hbs := hfz _ (List.mem_singleton.2 rfl); clear hfz; have hρ := Hp.le_trans hρ hlz; clear hlz; (try simp only [List.nil_append])) | (refine tl_is (.func 168) ?_; refine qC rfl rfl (wbyte_spec _ wb v r w2 B2 sp2 hown (by omega) _ (v.d.n : Int) hbs (by omega)) ?_; rintro v ρ' L' hle ⟨rfl, hl1, w1, sp1, hown, rfl⟩ <;> (try simp only [kM, kN, kO]); have hρ := Hp.le_trans hρ hl1; clear hl1) | (refine iBu ?_; refine tl_y (y_buildN rfl) rfl rfl ?_) | (refine i_op ?_; first | (refine i_qq ?_; refine qQ ?_) | refine qEf ?_) | refine tl_nil ?_ | (refine i_tc ?_; refine qTc ?_) | (refine i_te ?_; refine qTe ?_) | intro _)
    obtain ⟨B3, hB3⟩ : ∃ B3, B2 ++ [tB (v.d.n : Int)] = B3 := ⟨_, rfl⟩
    rw [hB3] at hown ⊢
    have hBl3 : B3.length ≤ 80001 := by rw [← hB3]; simp; omega
    have hfin3 : B3 ++ r.dirty.flatMap ckPB = l ++ (be 4 r.nextTxn.toNat ++ (listB ckTB r.txns ++ listB ckPB r.dirty)) := by rw [← hB3, ← hB2]; simp [listB, hl2, tB]
    rw [show bytC w1 B3 sp1 = bytC w1 (B3 ++ (r.dirty.take 0).flatMap ckPB) sp1 by simp]
    refine tc_loop_g [(0, _), (64, _), (65, _)] (fun (ζ : (Nat) × (Hp) × (Value) × (List Value)) => [(66, .int .i64 ζ.1)]) (fun (ζ : (Nat) × (Hp) × (Value) × (List Value)) => ζ.2.1) (fun (ζ : (Nat) × (Hp) × (Value) × (List Value)) => [bytC ζ.2.2.1 (B3 ++ (r.dirty.take ζ.1).flatMap ckPB) ζ.2.2.2, wrC wb v r ζ.2.2.1]) (fun (ζ : (Nat) × (Hp) × (Value) × (List Value)) => ζ.1 ≤ v.d.n ∧ ρ.le ζ.2.1 ∧ OwnB ζ.2.2.1 (B3 ++ (r.dirty.take ζ.1).flatMap ckPB) ζ.2.2.2) (fun (ζ : (Nat) × (Hp) × (Value) × (List Value)) => v.d.n - ζ.1) ((0, ρ', w1, sp1)) (⟨Nat.zero_le _, hρ, by simpa using hown⟩) ev_le ev_le rfl tk ?_
    rintro ⟨j, ρ2, w3, sp3⟩ hI
    try simp only [List.cons_append, List.nil_append, List.append_assoc, List.append_eq] at hI ⊢
    try dsimp only at hI ⊢
    obtain ⟨hj, hle2, hown⟩ := hI
    clear hρ
    by_cases hlj : j < v.d.n
    · obtain ⟨b, off, C, T, fr, e1, hbb, hfit, hcc⟩ := (hA2.mono hle2).get (show j < r.dirty.length by omega)
      have hts := flatMap_app ckPB r.dirty j (by omega)
      have hmem := List.getElem_mem (show j < r.dirty.length by omega)
      obtain ⟨g1, g2⟩ := hL.di _ hmem
      have hfl := flatMap_le ckPB 9 (r.dirty.take j) (fun x _ => Nat.le_of_eq (ckPB_len x))
      have htl : (r.dirty.take j).length ≤ 64 := by simp; omega
      generalize r.dirty[j]'(by omega) = x at *
      have hxl : (B3 ++ (r.dirty.take j).flatMap ckPB).length ≤ 83000 := by simp only [List.length_append]; omega
      have hmm : B3 ++ (r.dirty.take j).flatMap ckPB ++ ckPB x = B3 ++ (r.dirty.take (j + 1)).flatMap ckPB := by rw [hts]; simp
      generalize hX : B3 ++ (r.dirty.take j).flatMap ckPB = X at *
      have hρ := Hp.le_refl ρ2
      rw [e1]
      repeat' (first | (refine tl_buildSlice_s rfl rfl rfl rfl (by simp) rfl rfl (fun bs => ?_); refine tl_freeze _ (h := Rem.here) (fun ρz hlz hfz => ?_); have hbs := hfz _ (List.mem_singleton.2 rfl); clear hfz; have hρ := Hp.le_trans hρ hlz; clear hlz; (try simp only [List.nil_append])) | (refine tl_is (.func 168) ?_; refine qC rfl rfl (wbyte_spec _ wb v r w3 X sp3 hown (by omega) _ x.page hbs (by omega)) ?_; rintro v ρ' L' hle ⟨rfl, hl1, w4, sp4, hown, rfl⟩ <;> (try simp only [kM, kN, kO]); have hρ := Hp.le_trans hρ hl1; clear hl1) | (refine tl_is (.func 169) ?_; refine qC rfl rfl (wlong_spec _ wb v r w4 _ sp4 hown (by simp only [List.length_append, List.length_cons, List.length_nil, List.length_map, be_length]; omega) _ x.since hbs g2) ?_; rintro v ρ' L' hle ⟨rfl, hl1, w5, sp5, hown, rfl⟩ <;> (try simp only [kM, kN, kO]); have hρ := Hp.le_trans hρ hl1; clear hl1) | (refine iBu ?_; refine tl_y (y_buildN rfl) rfl rfl ?_) | (refine i_op ?_; first | (refine i_qq ?_; refine qQ ?_) | refine qEf ?_) | refine tl_nil ?_ | (refine i_tc ?_; refine qTc ?_) | (refine i_te ?_; refine qTe ?_) | intro _)
      rw [← e1]
      have e2 : X ++ [tB x.page] ++ be 8 x.since = B3 ++ (r.dirty.take (j + 1)).flatMap ckPB := by rw [← hmm]; simp [ckPB]
      rw [e2] at hown ⊢
      refine te_round_g (j + 1, _, w5, sp5) (⟨hlj, Hp.le_trans hle2 hρ, hown⟩) ev_le ev_le rfl tk inferInstance (by first | omega | (dsimp only; omega))
    · rw [show r.dirty.take j = r.dirty by rw [show j = r.dirty.length by omega, List.take_length], hfin3] at hown ⊢
      repeat' (first | (refine iBu ?_; refine tl_y (y_buildN rfl) rfl rfl ?_) | (refine i_op ?_; first | (refine i_qq ?_; refine qQ ?_) | refine qEf ?_) | refine tl_nil ?_ | (refine i_tc ?_; refine qTc ?_) | (refine i_te ?_; refine qTe ?_) | intro _)
      exact qE ⟨rfl, hle2, w3, sp3, hown, rfl⟩
end Go.Proofs.E

namespace Go.Proofs.E
open Go
set_option linter.unusedVariables false
set_option linter.unusedSimpArgs false
set_option linter.unusedSectionVars false
set_option maxRecDepth 4000
set_option maxHeartbeats 1000000
attribute [local irreducible] Yl TL TC TE Spec YSpec R1 Hp.le EnvLe TS TR YS Stays
-- BN
def layF (k : Int) : Nat := if k = 2 then 171 else if k = 3 then 172 else if k = 4 then 173 else if k = 5 then 174 else 175
theorem lay_spec (wb : Nat) (v : RV) (r : Rc) (hL : LayOk r) (hk : r.kind = 2 ∨ r.kind = 3 ∨ r.kind = 4 ∨ r.kind = 5 ∨ r.kind = 9) : Fun Tryz.prog (layF r.kind) ∧ ∀ (ρ : Hp) (w : Value) (l : List UInt8) (sp : List Value), OwnB w l sp → l.length ≤ 60000 → RcIn ρ v r →
    Spec Tryz.prog (layF r.kind) [.pointer (some ⟨wb, 0, none⟩)] ρ [bytC w l sp, wrC wb v r w] (WrP ρ wb v r (l ++ recTB r)) := by
  unfold layF recTB
  rcases hk with e | e | e | e | e
  · rw [if_pos e, if_pos e]
    exact ⟨inferInstance, fun ρ w l sp hown hn h => wimages_spec ρ wb v r w l sp hown (by omega) h hL⟩
  · rw [if_neg (by omega), if_pos e, if_neg (by omega), if_pos e]
    exact ⟨inferInstance, fun ρ w l sp hown hn h => wnested_spec ρ wb v r w l sp hown (by omega) hL.next⟩
  · rw [if_neg (by omega), if_neg (by omega), if_pos e, if_neg (by omega), if_neg (by omega), if_pos e]
    exact ⟨inferInstance, fun ρ w l sp hown hn h => wdone_spec ρ wb v r w l sp hown (by omega) h hL⟩
  · rw [if_neg (by omega), if_neg (by omega), if_neg (by omega), if_pos e, if_neg (by omega), if_neg (by omega), if_neg (by omega), if_pos e]
    exact ⟨inferInstance, fun ρ w l sp hown hn h => wundone_spec ρ wb v r w l sp hown (by omega) h hL⟩
  · rw [if_neg (by omega), if_neg (by omega), if_neg (by omega), if_neg (by omega), if_neg (by omega), if_neg (by omega), if_neg (by omega), if_neg (by omega), if_pos e]
    exact ⟨inferInstance, fun ρ w l sp hown hn h => wckpt_spec ρ wb v r w l sp hown (by omega) h hL⟩
theorem layF_chain {f : Nat → Option Value} {k : Int} (hk : k = 2 ∨ k = 3 ∨ k = 4 ∨ k = 5 ∨ k = 9) : (if k = 9 then f 175 else if k = 5 then f 174 else if k = 4 then f 173 else if k = 3 then f 172 else if k = 2 then f 171 else none) = f (layF k) := by
  unfold layF
  rcases hk with e | e | e | e | e <;> subst e <;> rfl
theorem recTB_none {r : Rc} (hk : ¬ (r.kind = 2 ∨ r.kind = 3 ∨ r.kind = 4 ∨ r.kind = 5 ∨ r.kind = 9)) : recTB r = [] := by
  unfold recTB
  rw [if_neg (by omega), if_neg (by omega), if_neg (by omega), if_neg (by omega), if_neg (by omega)]
theorem rlaid_spec (ρ : Hp) (v : RV) (r : Rc) (h : RcIn ρ v r) (hL : LayOk r) : Spec Tryz.prog 94 [.agg ⟨recV v r⟩] ρ []
    (fun z ρ' L' => ρ.le ρ' ∧ ∃ a c, z = .slice a (recB r).length c ∧ (recB r).length ≤ c ∧ SIn ρ' u8c a (recB r).length (recB r) ∧ L' = []) := by
  have hρ := Hp.le_refl ρ
  have hnil : IntKeys .i64 [] := by intro e he; simp at he
  have hg0 : ∀ k : Int, mget [] k = none := fun _ => rfl
  have k1 := hL.kind
  have k2 := hL.lsn
  have k3 := hL.txn
  have k4 := hL.prev
  refine spec_enter Tryz.func94 rfl rfl rfl fun u R => ?_
  simp only [argsE, List.cons_append, List.nil_append]
  repeat' (first | (refine tl_buildSlice_s rfl rfl rfl rfl (by simp) rfl rfl (fun bs => ?_); refine tl_freeze _ (h := Rem.here) (fun ρz hlz hfz => ?_); have hbs := hfz _ (List.mem_singleton.2 rfl); clear hfz; have hρ := Hp.le_trans hρ hlz; clear hlz; (try simp only [List.nil_append])) | (rename_i rb wb; refine tl_is (.func 168) ?_; refine tl_call rfl rfl (wbyte_spec _ _ v r (.slice none 0 0) [] [] (OwnS.nil 1) (by decide) _ r.kind hbs k1) (take_cons' rem_nil' (take_cons' rem_here' take_nil')) rfl ?_; rintro z1 ρ1 L1 hle0 ⟨rfl, hl1, w1, sp1, hown, rfl⟩; simp only [List.cons_append, List.nil_append] at hown ⊢; have hρ := Hp.le_trans hρ hl1; clear hl1) | (refine tl_is (.func 169) ?_; refine qC rfl rfl ((wlong_spec _ _ v r w1 _ sp1 hown (by simp only [List.length_append, List.length_cons, List.length_nil, List.length_map, be_length]; omega) _ r.lsn hbs k2)) ?_; rintro v ρ' L' hle ⟨rfl, hl1, w2, sp2, hown, rfl⟩ <;> (try simp only [kM, kN, kO]); have hρ := Hp.le_trans hρ hl1; clear hl1) | (refine tl_is (.func 170) ?_; refine qC rfl rfl ((wtxn_spec _ _ v r w2 _ sp2 hown (by simp only [List.length_append, List.length_cons, List.length_nil, List.length_map, be_length]; omega) r.txn k3)) ?_; rintro v ρ' L' hle ⟨rfl, hl1, w3, sp3, hown, rfl⟩ <;> (try simp only [kM, kN, kO]); have hρ := Hp.le_trans hρ hl1; clear hl1) | (refine tl_is (.func 169) ?_; refine qC rfl rfl ((wlong_spec _ _ v r w3 _ sp3 hown (by simp only [List.length_append, List.length_cons, List.length_nil, List.length_map, be_length]; omega) _ r.prev hbs k4)) ?_; rintro v ρ' L' hle ⟨rfl, hl1, w4, sp4, hown, rfl⟩ <;> (try simp only [kM, kN, kO]); have hρ := Hp.le_trans hρ hl1; clear hl1) | (refine tl_insert rfl rfl rfl hnil (fun es1 ck1 i1 j1 => ?_)) | (refine tl_insert rfl rfl rfl i1 (fun es2 ck2 i2 j2 => ?_)) | (refine tl_insert rfl rfl rfl i2 (fun es3 ck3 i3 j3 => ?_)) | (refine tl_insert rfl rfl rfl i3 (fun es4 ck4 i4 j4 => ?_)) | (refine iBu ?_; refine tl_y (y_buildN rfl) rfl rfl ?_) | (refine i_op ?_; first | (refine i_qq ?_; refine qQ ?_) | refine qEf ?_) | refine tl_nil ?_ | (refine i_tc ?_; refine qTc ?_) | (refine i_te ?_; refine qTe ?_) | intro _)
  rename_i mb
  refine tl_insert rfl rfl rfl i4 (fun es5 ck5 i5 j5 => ?_)
  have hg := j5 r.kind
  rw [j4, j3, j2, j1, hg0] at hg
  clear j1 j2 j3 j4 j5 i1 i2 i3 i4
  have hH : tB r.kind :: (be 8 r.lsn ++ be 4 r.txn.toNat ++ be 8 r.prev) = recHB r := by simp [recHB]
  have hHl : (recHB r).length ≤ 100 := by simp [recHB, be_length]
  simp only [List.cons_append, List.nil_append, hH] at hown ⊢
  by_cases hk : r.kind = 2 ∨ r.kind = 3 ∨ r.kind = 4 ∨ r.kind = 5 ∨ r.kind = 9
  · obtain ⟨hF, hS⟩ := lay_spec wb v r hL hk
    have hS := fun ρ (hle : Hp.le _ ρ) => hS ρ w4 _ sp4 hown (by omega) (h.mono hle)
    have hgF : mget es5 r.kind = some (Value.func (.func (layF r.kind)) ⟨[.pointer (some ⟨wb, 0, none⟩)]⟩ ⟨[]⟩) := by
      rw [hg]
      exact layF_chain (f := fun F => some (Value.func (.func F) ⟨[.pointer (some ⟨wb, 0, none⟩)]⟩ ⟨[]⟩)) hk
    clear hg
    generalize layF r.kind = F at *
    repeat' (first | (refine tl_is (.tmp 46) ?_; refine qC rfl rfl (hS _ hρ) ?_; rintro v ρ' L' hle ⟨rfl, hl1, w5, sp5, hown, rfl⟩ <;> (try simp only [kM, kN, kO]); have hρ := Hp.le_trans hρ hl1; clear hl1) | (refine iBu ?_; refine tl_y (y_buildN rfl) rfl rfl ?_) | (refine i_op ?_; first | (refine i_qq ?_; refine qQ ?_) | refine qEf ?_) | refine tl_nil ?_ | (refine i_tc ?_; refine qTc ?_) | (refine i_te ?_; refine qTe ?_) | intro _)
    have hB : recHB r ++ recTB r = recB r := rfl
    rw [hB] at hown ⊢
    obtain ⟨va, vc, rfl, _⟩ := hown.slice
    repeat' (first | (refine iBu ?_; refine tl_y (y_buildN rfl) rfl rfl ?_) | (refine i_op ?_; first | (refine i_qq ?_; refine qQ ?_) | refine qEf ?_) | refine tl_nil ?_ | (refine i_tc ?_; refine qTc ?_) | (refine i_te ?_; refine qTe ?_) | intro _)
    refine te_freeze (bytC (.slice va (recB r).length vc) (recB r) sp5) (h := by repeat (first | exact rem_here' | apply rem_there')) (fun ρ6 hle6 hfz => ?_)
    obtain ⟨a6, c6, e6, hc6, hs6⟩ := hown.sIn hfz
    cases e6
    exact qE ⟨Hp.le_trans hρ hle6, va, vc, rfl, hc6, hs6, rfl⟩
  · have hgN : mget es5 r.kind = none := by
      rw [hg]
      simp only [show ¬ r.kind = 9 by omega, show ¬ r.kind = 5 by omega, show ¬ r.kind = 4 by omega, show ¬ r.kind = 3 by omega, show ¬ r.kind = 2 by omega, if_false]
    clear hg
    have hB : recHB r = recB r := by unfold recB; rw [recTB_none hk, List.append_nil]
    rw [hB] at hown ⊢
    obtain ⟨va, vc, rfl, _⟩ := hown.slice
    repeat' (first | (refine iBu ?_; refine tl_y (y_buildN rfl) rfl rfl ?_) | (refine i_op ?_; first | (refine i_qq ?_; refine qQ ?_) | refine qEf ?_) | refine tl_nil ?_ | (refine i_tc ?_; refine qTc ?_) | (refine i_te ?_; refine qTe ?_) | intro _)
    refine te_freeze (bytC (.slice va (recB r).length vc) (recB r) sp4) (h := by repeat (first | exact rem_here' | apply rem_there')) (fun ρ6 hle6 hfz => ?_)
    obtain ⟨a6, c6, e6, hc6, hs6⟩ := hown.sIn hfz
    cases e6
    exact qE ⟨Hp.le_trans hρ hle6, va, vc, rfl, hc6, hs6, rfl⟩
end Go.Proofs.E

namespace Go.Proofs.E
open Go
set_option linter.unusedVariables false
set_option linter.unusedSimpArgs false
set_option linter.unusedSectionVars false
set_option maxRecDepth 4000
set_option maxHeartbeats 1000000
attribute [local irreducible] Yl TL TC TE Spec YSpec R1 Hp.le EnvLe TS TR YS Stays
-- BN
def sectsB (n : Nat) : Nat := max 1 ((n + 51) / 52)
theorem rsects_spec (ρ : Hp) (n : Nat) (hn : n ≤ 4611686018427387904) : Spec Tryz.prog 93 [.int .i64 n] ρ [] (fun v ρ' L' => v = .int .i64 (sectsB n : Nat) ∧ ρ' = ρ ∧ L' = []) := by
  refine spec_enter Tryz.func93 rfl rfl rfl fun u R => ?_
  simp only [argsE, List.cons_append, List.nil_append]
  have e : max 1 (IntKind.i64.wrap (((n : Int) + 52 - 1).tdiv 52)) = ((sectsB n : Nat) : Int) := by
    rw [Int.tdiv_eq_ediv_of_nonneg (by omega), wrap_id (by simp only [lo, hi]; omega)]
    unfold sectsB; omega
  repeat' (first | (refine iBu ?_; refine tl_y (y_buildN rfl) rfl rfl ?_) | (refine i_op ?_; first | (refine i_qq ?_; refine qQ ?_) | refine qEf ?_) | refine tl_nil ?_ | (refine i_tc ?_; refine qTc ?_) | (refine i_te ?_; refine qTe ?_) | intro _)
  rw [e]
  exact qE ⟨rfl, rfl, rfl⟩
theorem listB_le {α : Type} (f : α → List UInt8) (m : Nat) (l : List α) (h : ∀ x ∈ l, (f x).length ≤ m) : (listB f l).length ≤ 1 + l.length * m := by
  have := flatMap_le f m l h
  unfold listB
  rw [List.length_cons]; omega
theorem recB_le {r : Rc} (h : LayOk r) : (recB r).length ≤ 4000 := by
  have h1 : (recHB r).length = 21 := by simp [recHB, be_length]
  have h2 : (imsB r).length ≤ 1 + r.ims.length * 165 := listB_le _ 165 r.ims (fun x hx => imB_len (h.im x hx).2.1 (h.im x hx).2.2)
  have h3 : (listB stpB r.steps).length ≤ 1 + r.steps.length * 21 := listB_le _ 21 r.steps (fun x hx => stpB_len (h.st x hx))
  have h4 : (listB ckTB r.txns).length ≤ 1 + r.txns.length * 29 := listB_le _ 29 r.txns (fun x hx => Nat.le_of_eq (ckTB_len x))
  have h5 : (listB ckPB r.dirty).length ≤ 1 + r.dirty.length * 9 := listB_le _ 9 r.dirty (fun x hx => Nat.le_of_eq (ckPB_len x))
  have a1 := h.il
  have a2 := h.sl
  have a3 := h.tl
  have a4 := h.dl
  have h6 : (recTB r).length ≤ 3900 := by
    unfold recTB
    split
    · omega
    · split
      · rw [be_length]; omega
      · split
        · rw [List.length_append, be_length]; omega
        · split
          · rw [List.length_append, be_length]; omega
          · split
            · rw [List.length_append, List.length_append, be_length]; omega
            · simp
  unfold recB
  rw [List.length_append]; omega
theorem rencode_spec (ρ : Hp) (v : RV) (r : Rc) (h : RcIn ρ v r) : Spec Tryz.prog 36 [.agg ⟨recV v r⟩] ρ []
    (fun z ρ' L' => ρ.le ρ' ∧ ∃ a n c, z = .tuple ⟨[.slice a n c, .int .i64 (if recOk r then 0 else 220)]⟩ ∧ n ≤ c ∧ SIn ρ' u8c a n (if recOk r then recB r else []) ∧ L' = []) := by
  have hck := rcheck_spec ρ v r h
  refine spec_enter Tryz.func36 rfl rfl rfl fun u R => ?_
  simp only [argsE, List.cons_append, List.nil_append]
  cases hok : recOk r
  · rw [hok] at hck
    repeat' (first | (refine tl_is (.func 34) ?_; refine qC rfl rfl (hck) ?_; rintro v ρ' L' hle ⟨rfl, rfl, rfl⟩ <;> (try simp only [kM, kN, kO, if_false, Bool.false_eq_true])) | (refine iBu ?_; refine tl_y (y_buildN rfl) rfl rfl ?_) | (refine i_op ?_; first | (refine i_qq ?_; refine qQ ?_) | refine qEf ?_) | refine tl_nil ?_ | (refine i_tc ?_; refine qTc ?_) | (refine i_te ?_; refine qTe ?_) | intro _)
    exact qE ⟨Hp.le_refl _, none, 0, 0, rfl, Nat.le_refl _, SIn.nil, rfl⟩
  · rw [hok] at hck
    have hla := rlaid_spec ρ v r h (recOk_lay hok)
    repeat' (first | (refine tl_is (.func 34) ?_; refine qC rfl rfl (hck) ?_; rintro v ρ' L' hle ⟨rfl, rfl, rfl⟩ <;> (try simp only [kM, kN, kO, if_true])) | (refine tl_is (.func 94) ?_; refine qC rfl rfl (hla) ?_; rintro v ρ' L' hle ⟨hle1, a, c, rfl, hc, hs, rfl⟩ <;> (try simp only [kM, kN, kO])) | (refine iBu ?_; refine tl_y (y_buildN rfl) rfl rfl ?_) | (refine i_op ?_; first | (refine i_qq ?_; refine qQ ?_) | refine qEf ?_) | refine tl_nil ?_ | (refine i_tc ?_; refine qTc ?_) | (refine i_te ?_; refine qTe ?_) | intro _)
    exact qE ⟨hle1, a, _, c, rfl, hc, hs, rfl⟩
def costN (r : Rc) : Nat := if recOk r then sectsB (recB r).length else 0
def errN (r : Rc) : Int := if recOk r then 0 else 220
theorem rcost_spec (ρ : Hp) (v : RV) (r : Rc) (h : RcIn ρ v r) : Spec Tryz.prog 28 [.agg ⟨recV v r⟩] ρ []
    (fun z ρ' L' => ρ.le ρ' ∧ z = .tuple ⟨[.int .i64 (costN r : Nat), .int .i64 (errN r)]⟩ ∧ L' = []) := by
  have hck := rcheck_spec ρ v r h
  unfold costN errN
  refine spec_enter Tryz.func28 rfl rfl rfl fun u R => ?_
  simp only [argsE, List.cons_append, List.nil_append]
  cases hok : recOk r
  · rw [hok] at hck
    repeat' (first | (refine tl_is (.func 34) ?_; refine qC rfl rfl (hck) ?_; rintro v ρ' L' hle ⟨rfl, rfl, rfl⟩ <;> (try simp only [kM, kN, kO, if_false, Bool.false_eq_true])) | (refine iBu ?_; refine tl_y (y_buildN rfl) rfl rfl ?_) | (refine i_op ?_; first | (refine i_qq ?_; refine qQ ?_) | refine qEf ?_) | refine tl_nil ?_ | (refine i_tc ?_; refine qTc ?_) | (refine i_te ?_; refine qTe ?_) | intro _)
    exact qE ⟨Hp.le_refl _, rfl, rfl⟩
  · rw [hok] at hck
    have hla := rlaid_spec ρ v r h (recOk_lay hok)
    have hb := recB_le (recOk_lay hok)
    repeat' (first | (refine tl_is (.func 34) ?_; refine qC rfl rfl (hck) ?_; rintro v ρ' L' hle ⟨rfl, rfl, rfl⟩ <;> (try simp only [kM, kN, kO, if_true])) | (refine tl_is (.func 94) ?_; refine qC rfl rfl (hla) ?_; rintro v ρ' L' hle ⟨hle1, a, c, rfl, hc, hs, rfl⟩ <;> (try simp only [kM, kN, kO])) | (refine tl_is (.func 93) ?_; refine qC rfl rfl (rsects_spec _ _ (by omega)) ?_; rintro v ρ' L' hle ⟨rfl, rfl, rfl⟩ <;> (try simp only [kM, kN, kO])) | (refine iBu ?_; refine tl_y (y_buildN rfl) rfl rfl ?_) | (refine i_op ?_; first | (refine i_qq ?_; refine qQ ?_) | refine qEf ?_) | refine tl_nil ?_ | (refine i_tc ?_; refine qTc ?_) | (refine i_te ?_; refine qTe ?_) | intro _)
    exact qE ⟨hle1, rfl, rfl⟩
theorem undoable_spec (ρ : Hp) (v : RV) (r : Rc) (h : RcIn ρ v r) : Spec Tryz.prog 31 [.agg ⟨recV v r⟩] ρ []
    (fun z ρ' L' => z = .bool (recOk r && decide (r.kind = 2 ∨ r.kind = 4)) ∧ ρ' = ρ ∧ L' = []) := by
  have hck := rcheck_spec ρ v r h
  refine spec_enter Tryz.func31 rfl rfl rfl fun u R => ?_
  simp only [argsE, List.cons_append, List.nil_append]
  cases hok : recOk r
  · rw [hok] at hck
    repeat' (first | (refine tl_is (.func 34) ?_; refine qC rfl rfl (hck) ?_; rintro v ρ' L' hle ⟨rfl, rfl, rfl⟩ <;> (try simp only [kM, kN, kO, if_false, Bool.false_eq_true])) | (refine iBu ?_; refine tl_y (y_buildN rfl) rfl rfl ?_) | (refine i_op ?_; first | (refine i_qq ?_; refine qQ ?_) | refine qEf ?_) | refine tl_nil ?_ | (refine i_tc ?_; refine qTc ?_) | (refine i_te ?_; refine qTe ?_) | intro _)
    exact qE ⟨rfl, rfl, rfl⟩
  · rw [hok] at hck
    by_cases h2 : r.kind = 2
    · repeat' (first | (refine tl_is (.func 34) ?_; refine qC rfl rfl (hck) ?_; rintro v ρ' L' hle ⟨rfl, rfl, rfl⟩ <;> (try simp only [kM, kN, kO, if_true])) | (refine iBu ?_; refine tl_y (y_buildN rfl) rfl rfl ?_) | (refine i_op ?_; first | (refine i_qq ?_; refine qQ ?_) | refine qEf ?_) | refine tl_nil ?_ | (refine i_tc ?_; refine qTc ?_) | (refine i_te ?_; refine qTe ?_) | intro _)
      refine qF (L' := []) ?_
      exact ⟨by simp [h2], rfl, rfl⟩
    · repeat' (first | (refine tl_is (.func 34) ?_; refine qC rfl rfl (hck) ?_; rintro v ρ' L' hle ⟨rfl, rfl, rfl⟩ <;> (try simp only [kM, kN, kO, if_true])) | (refine iBu ?_; refine tl_y (y_buildN rfl) rfl rfl ?_) | (refine i_op ?_; first | (refine i_qq ?_; refine qQ ?_) | refine qEf ?_) | refine tl_nil ?_ | (refine i_tc ?_; refine qTc ?_) | (refine i_te ?_; refine qTe ?_) | intro _)
      refine qF (L' := []) ?_
      exact ⟨bool_eq (by (try simp [*]); first | done | omega | (intros; omega) | (constructor <;> intros <;> (try simp_all) <;> omega)), rfl, rfl⟩
def undI (x : Im) : Im := ⟨0, nilCV, ztC, x.bv, x.b⟩
def undR (l : List Im) : Rc := ⟨5, 0, 0, 0, 0, l.map undI, [], 0, [], []⟩
def stepN (s : Stp) : Nat := if s.kind = 3 ∨ s.kind = 4 then 12 else 1
def pagesN (l : List Stp) : Nat := (l.map stepN).sum
def reserveN (r : Rc) : Nat :=
  if recOk r then (if r.kind = 1 then 2 else if r.kind = 2 then sectsB (recB (undR r.ims)).length else if r.kind = 4 then sectsB (30 + min (pagesN r.steps) 16 * 83) else 0) else 0
theorem contOk_z : contOk ztC = true := by decide
theorem undR_lay {l : List Im} (h1 : l.length ≤ 16) (h2 : ∀ x ∈ l, contOk x.b = true) : LayOk (undR l) := by
  refine ⟨by simp [undR], by simp [undR], by simp [undR], by simp [undR], by simp [undR], by simp [undR], by simp [undR]; omega, ?_, by simp [undR], by simp [undR], by simp [undR], by simp [undR], by simp [undR], by simp [undR]⟩
  intro x hx
  obtain ⟨y, hy, rfl⟩ := List.mem_map.1 hx
  exact ⟨by simp [undI], h2 y hy, contOk_z⟩
end Go.Proofs.E

namespace Go.Proofs.E
open Go
set_option linter.unusedVariables false
set_option linter.unusedSimpArgs false
set_option linter.unusedSectionVars false
set_option maxRecDepth 4000
set_option maxHeartbeats 1000000
attribute [local irreducible] Yl TL TC TE Spec YSpec R1 Hp.le EnvLe TS TR YS Stays
-- BN
/-! ## record: the reader -/
theorem u32_spec (ρ : Hp) (br : Nat) (a : Option Addr) (n c : Nat) (l : List UInt8) (h : SIn ρ u8c a n l) (hc : n ≤ c) (st : Int) :
    Spec Tryz.prog 81 [.pointer (some ⟨br, 0, none⟩)] ρ [rdC br a n c st]
      (fun v ρ' L' => v = .int .u32 ((numR 4 l st).1 : Nat) ∧ ρ' = ρ ∧ ∃ a' n' c', SIn ρ u8c a' n' (numR 4 l st).2.1 ∧ n' ≤ c' ∧ L' = [rdC br a' n' c' (numR 4 l st).2.2]) := by
  have hb := numR_lt 4 l st
  have hn := number_spec ρ br a n c l h hc st 4 (by omega)
  generalize numR 4 l st = r at *
  refine spec_enter Tryz.func81 rfl rfl rfl fun u R => ?_
  simp only [argsE, List.cons_append, List.nil_append]
  repeat' (first | (refine tl_is (.func 151) ?_; refine qC rfl rfl (hn) ?_; rintro v ρ' L' hle ⟨rfl, rfl, a', n', c', hs', hc', rfl⟩ <;> (try simp only [kM, kN, kO])) | (refine iBu ?_; refine tl_y (y_buildN rfl) rfl rfl ?_) | (refine i_op ?_; first | (refine i_qq ?_; refine qQ ?_) | refine qEf ?_) | refine tl_nil ?_ | (refine i_tc ?_; refine qTc ?_) | (refine i_te ?_; refine qTe ?_) | intro _)
  exact qE ⟨rfl, rfl, a', n', c', hs', hc', rfl⟩
abbrev reC (tb br : Nat) (ra : Option Addr) (rn rc : Nat) (v : RV) (r : Rc) (bad : Bool) : List (Nat × Obj) := [(tb, .cells ⟨[.pointer (some ⟨br, 0, none⟩), .slice ra rn rc, .int .i64 r.kind, .int .u64 r.lsn, .int .i64 r.txn, .int .u64 r.prev, .int .u64 r.next, .slice v.i.a v.i.n v.i.c, .slice v.s.a v.s.n v.s.c, .int .i64 r.nextTxn, .slice v.t.a v.t.n v.t.c, .slice v.d.a v.d.n v.d.c, .bool bad]⟩ 131 (0, 0))]
/-- what a reader stands on -/
structure RdAt (ρ : Hp) (a : Option Addr) (n c : Nat) (ra : Option Addr) (rn rc : Nat) (R : List UInt8) (s : RS3) : Prop where
  at' : SIn ρ u8c a n s.1
  cap : n ≤ c
  rest : SIn ρ u8c ra rn R
  rcap : rn ≤ rc
  big : rn ≤ 1000000
  suf : ∃ X, R = X ++ s.1
theorem RdAt.mono {ρ ρ' a n c ra rn rc R s} (h : RdAt ρ a n c ra rn rc R s) (hle : ρ.le ρ') : RdAt ρ' a n c ra rn rc R s := ⟨h.at'.mono hle, h.cap, h.rest.mono hle, h.rcap, h.big, h.suf⟩
theorem numR_suf (k : Nat) (l : List UInt8) (st : Int) : ∃ X, l = X ++ (numR k l st).2.1 := by
  unfold numR
  split
  · exact ⟨[], rfl⟩
  · split
    · exact ⟨[], rfl⟩
    · exact ⟨l.take k, (List.take_append_drop k l).symm⟩
theorem rawR_suf (k : Nat) (l : List UInt8) (st : Int) : ∃ X, l = X ++ (rawR k l st).2.1 := by
  unfold rawR
  split
  · exact ⟨[], rfl⟩
  · split
    · exact ⟨[], rfl⟩
    · exact ⟨l.take k, (List.take_append_drop k l).symm⟩
theorem RdAt.num {ρ a n c ra rn rc R s} (h : RdAt ρ a n c ra rn rc R s) (k : Nat) {a' n' c'} (h1 : SIn ρ u8c a' n' (numR k s.1 s.2.1).2.1) (h2 : n' ≤ c') : RdAt ρ a' n' c' ra rn rc R (rdN k s).2 := by
  obtain ⟨X, hX⟩ := h.suf
  obtain ⟨Y, hY⟩ := numR_suf k s.1 s.2.1
  exact ⟨h1, h2, h.rest, h.rcap, h.big, X ++ Y, by rw [List.append_assoc, hX]; exact congrArg (X ++ ·) hY⟩
theorem RdAt.skip {ρ a n c ra rn rc R s} (h : RdAt ρ a n c ra rn rc R s) (k : Int) {a' n' c'} (h1 : SIn ρ u8c a' n' (rawR k.toNat s.1 s.2.1).2.1) (h2 : n' ≤ c') : RdAt ρ a' n' c' ra rn rc R (skipS k s) := by
  obtain ⟨X, hX⟩ := h.suf
  obtain ⟨Y, hY⟩ := rawR_suf k.toNat s.1 s.2.1
  exact ⟨h1, h2, h.rest, h.rcap, h.big, X ++ Y, by rw [List.append_assoc, hX]; exact congrArg (X ++ ·) hY⟩
/-- the reader's chunks at a state -/
abbrev rdL (tb br : Nat) (a : Option Addr) (n c : Nat) (ra : Option Addr) (rn rc : Nat) (v : RV) (r : Rc) (s : RS3) : SH := [reC tb br ra rn rc v r s.2.2, rdC br a n c s.2.1]
theorem n8_spec (ρ : Hp) (br : Nat) {a n c ra rn rc R} {s : RS3} (h : RdAt ρ a n c ra rn rc R s) : Spec Tryz.prog 79 [.pointer (some ⟨br, 0, none⟩)] ρ [rdC br a n c s.2.1]
    (fun v ρ' L' => v = .int .u8 ((rdN 1 s).1 : Nat) ∧ ρ' = ρ ∧ ∃ a' n' c', RdAt ρ a' n' c' ra rn rc R (rdN 1 s).2 ∧ L' = [rdC br a' n' c' (rdN 1 s).2.2.1]) := by
  refine (u8_spec ρ br a n c s.1 h.at' h.cap s.2.1).mono ?_
  rintro v ρ' L' _ ⟨h1, h2, a', n', c', h3, h4, h5⟩
  exact ⟨h1, h2, a', n', c', h.num 1 h3 h4, h5⟩
theorem n16_spec (ρ : Hp) (br : Nat) {a n c ra rn rc R} {s : RS3} (h : RdAt ρ a n c ra rn rc R s) : Spec Tryz.prog 160 [.pointer (some ⟨br, 0, none⟩)] ρ [rdC br a n c s.2.1]
    (fun v ρ' L' => v = .int .u16 ((rdN 2 s).1 : Nat) ∧ ρ' = ρ ∧ ∃ a' n' c', RdAt ρ a' n' c' ra rn rc R (rdN 2 s).2 ∧ L' = [rdC br a' n' c' (rdN 2 s).2.2.1]) := by
  refine (u16_spec ρ br a n c s.1 h.at' h.cap s.2.1).mono ?_
  rintro v ρ' L' _ ⟨h1, h2, a', n', c', h3, h4, h5⟩
  exact ⟨h1, h2, a', n', c', h.num 2 h3 h4, h5⟩
theorem n32_spec (ρ : Hp) (br : Nat) {a n c ra rn rc R} {s : RS3} (h : RdAt ρ a n c ra rn rc R s) : Spec Tryz.prog 81 [.pointer (some ⟨br, 0, none⟩)] ρ [rdC br a n c s.2.1]
    (fun v ρ' L' => v = .int .u32 ((rdN 4 s).1 : Nat) ∧ ρ' = ρ ∧ ∃ a' n' c', RdAt ρ a' n' c' ra rn rc R (rdN 4 s).2 ∧ L' = [rdC br a' n' c' (rdN 4 s).2.2.1]) := by
  refine (u32_spec ρ br a n c s.1 h.at' h.cap s.2.1).mono ?_
  rintro v ρ' L' _ ⟨h1, h2, a', n', c', h3, h4, h5⟩
  exact ⟨h1, h2, a', n', c', h.num 4 h3 h4, h5⟩
theorem n64_spec (ρ : Hp) (br : Nat) {a n c ra rn rc R} {s : RS3} (h : RdAt ρ a n c ra rn rc R s) : Spec Tryz.prog 80 [.pointer (some ⟨br, 0, none⟩)] ρ [rdC br a n c s.2.1]
    (fun v ρ' L' => v = .int .u64 ((rdN 8 s).1 : Nat) ∧ ρ' = ρ ∧ ∃ a' n' c', RdAt ρ a' n' c' ra rn rc R (rdN 8 s).2 ∧ L' = [rdC br a' n' c' (rdN 8 s).2.2.1]) := by
  refine (u64_spec ρ br a n c s.1 h.at' h.cap s.2.1).mono ?_
  rintro v ρ' L' _ ⟨h1, h2, a', n', c', h3, h4, h5⟩
  exact ⟨h1, h2, a', n', c', h.num 8 h3 h4, h5⟩
theorem rdN_lt (k : Nat) (s : RS3) : (rdN k s).1 < 256 ^ k := numR_lt k s.1 s.2.1
theorem rdN_bad (k : Nat) (s : RS3) : (rdN k s).2.2.2 = s.2.2 := rfl
theorem rok_spec (ρ : Hp) (tb br : Nat) (a : Option Addr) (n c : Nat) (ra : Option Addr) (rn rc : Nat) (v : RV) (r : Rc) (s : RS3) : Spec Tryz.prog 87 [.pointer (some ⟨tb, 0, none⟩)] ρ (rdL tb br a n c ra rn rc v r s)
    (fun z ρ' L' => z = .bool (okS s) ∧ ρ' = ρ ∧ L' = rdL tb br a n c ra rn rc v r s) := by
  obtain ⟨l, st, bad⟩ := s
  unfold okS rdL
  refine spec_enter Tryz.func87 rfl rfl rfl fun u R => ?_
  simp only [argsE, List.cons_append, List.nil_append]
  cases bad
  · repeat' (first | (refine tl_is (.func 165) ?_; refine qC rfl rfl (err_spec _ br a n c st) ?_; rintro v ρ' L' hle ⟨rfl, rfl, rfl⟩ <;> (try simp only [kM, kN, kO])) | (refine iBu ?_; refine tl_y (y_buildN rfl) rfl rfl ?_) | (refine i_op ?_; first | (refine i_qq ?_; refine qQ ?_) | refine qEf ?_) | refine tl_nil ?_ | (refine i_tc ?_; refine qTc ?_) | (refine i_te ?_; refine qTe ?_) | intro _)
    refine qF (L' := [reC tb br ra rn rc v r false, rdC br a n c st]) ?_
    exact ⟨bool_eq (by (try simp [*]); first | done | omega | (intros; omega) | (constructor <;> intros <;> (try simp_all) <;> omega)), rfl, rfl⟩
  · repeat' (first | (refine iBu ?_; refine tl_y (y_buildN rfl) rfl rfl ?_) | (refine i_op ?_; first | (refine i_qq ?_; refine qQ ?_) | refine qEf ?_) | refine tl_nil ?_ | (refine i_tc ?_; refine qTc ?_) | (refine i_te ?_; refine qTe ?_) | intro _)
    exact qE ⟨rfl, rfl, rfl⟩
end Go.Proofs.E

