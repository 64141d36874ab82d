/- Laws of analysis. Part 21 of 37. -/
import Derived.Test.YtkbiahafeoillaaGreatB20
namespace Go.Proofs.E
open Go
set_option linter.unusedVariables false
set_option linter.unusedSimpArgs false
set_option linter.unusedSectionVars false
set_option maxRecDepth 4000
set_option maxHeartbeats 1000000
attribute [local irreducible] Yl TL TC TE Spec YY R1 Hp.le EnvLe TS TR YS Zq
instance (priority := 1200) eqCkT {x y : CkT} : EqC Tryz.prog 8 169 (.agg ⟨ckTV x⟩) (.agg ⟨ckTV y⟩) (decide (x = y)) := by
 have h : EqC Tryz.prog 8 169 (.agg ⟨[.int .i64 x.txn, .int .u64 x.first, .int .u64 x.last, .int .u64 x.undo, .int .i64 x.state]⟩) (.agg ⟨[.int .i64 y.txn, .int .u64 y.first, .int .u64 y.last, .int .u64 y.undo, .int .i64 y.state]⟩) _ := inferInstance
 refine ⟨fun d w hd => ?_⟩
 rw [h.out d w hd]
 congr 1
 obtain ⟨t, a, b, c, s⟩ := x
 obtain ⟨t', a', b', c', s'⟩ := y
 simp only [CkT.mk.injEq, Bool.and_true, Bool.decide_and]
 have e : ∀ i i' : Nat, ((i : Int) == (i' : Int)) = decide (i = i') := fun i i' => by
  by_cases h : i = i'
  ·subst h; simp
  ·rw [decide_eq_false h]; simp only [beq_eq_false_iff_ne, ne_eq]; omega
 rw [e, e, e]
 have e2 : ∀ i i' : Int, (i == i') = decide (i = i') := fun i i' => by
  by_cases h : i = i' <;> simp [h]
 rw [e2, e2]
instance (priority := 1200) eqStp {x y : Stp} : EqC Tryz.prog 8 60 (.agg ⟨stpV x⟩) (.agg ⟨stpV y⟩) (decide (x = y)) := by
 have h : EqC Tryz.prog 8 60 (.agg ⟨[.int .i64 x.kind, .int .i64 x.row.t, .int .u16 x.row.id, .int .i64 x.row.val, strV x.row.note, .int .i64 x.by']⟩) (.agg ⟨[.int .i64 y.kind, .int .i64 y.row.t, .int .u16 y.row.id, .int .i64 y.row.val, strV y.row.note, .int .i64 y.by']⟩) _ := inferInstance
 refine ⟨fun d w hd => ?_⟩
 rw [h.out d w hd]
 congr 1
 obtain ⟨k, ⟨t, i, v, n⟩, b⟩ := x
 obtain ⟨k', ⟨t', i', v', n'⟩, b'⟩ := y
 simp only [Stp.mk.injEq, Row.mk.injEq, Bool.and_true, Bool.decide_and]
 have e : ∀ i i' : Nat, ((i : Int) == (i' : Int)) = decide (i = i') := fun i i' => by
  by_cases h : i = i'
  ·subst h; simp
  ·rw [decide_eq_false h]; simp only [beq_eq_false_iff_ne, ne_eq]; omega
 rw [e]
 have e2 : ∀ i i' : Int, (i == i') = decide (i = i') := fun i i' => by
  by_cases h : i = i' <;> simp [h]
 rw [e2, e2, e2, e2]
 simp only [Bool.and_assoc]
theorem eqCKT_spec (ρ : Hp) (s s' : SV) (l m : List CkT) (h : AS ρ 5 ckTV s l) (h' : AS ρ 5 ckTV s' m) :
  Spec Tryz.prog 115 [.slice s.a s.n s.c, .slice s'.a s'.n s'.c] ρ [] (fun v ρ' L' => v = .bool (decide (l = m)) ∧ ρ' = ρ ∧ L' = []) := by
 have hl := h.at'.len
 have hm := h'.at'.len
 have hn := h.big
 refine Zg Tryz.func115 rfl rfl rfl fun u R => ?_
 simp only [Zx, List.cons_append, List.nil_append]
 by_cases hne : s.n = s'.n
 ·repeat' (first | (refine Zz ?_; refine Zk (Zc rfl) rfl rfl ?_) | (refine Zh ?_; first | (refine Zf ?_; refine qQ ?_) | refine Zm ?_) | refine Zb ?_ | (refine Zi ?_; refine Zr ?_) | (refine Zj ?_; refine Zs ?_) | intro _)
  refine ZC [(0, _), (1, _), (12, _)] (fun (ζ : (Nat)) => [(13, .int .i64 ζ), (4, .bool false)]) (fun (ζ : (Nat)) => ρ) (fun (ζ : (Nat)) => []) (fun (ζ : (Nat)) => ζ ≤ s.n ∧ l.take ζ = m.take ζ) (fun (ζ : (Nat)) => s.n - ζ) (0) (⟨Nat.zero_le _, rfl⟩) Zl Zl rfl tk ?_
  rintro k hI
  try simp only [List.cons_append, List.nil_append, List.append_assoc, List.append_eq] at hI ⊢
  try dsimp only at hI ⊢
  obtain ⟨hk, hpre⟩ := hI
  by_cases hlt : k < s.n
  ·obtain ⟨b, off, C, T, fr, f1, hb, hfit, hc⟩ := h.at'.get (show k < l.length by omega)
   obtain ⟨b2, off2, C2, T2, fr2, f2, hb2, hfit2, hc2⟩ := h'.at'.get (show k < m.length by omega)
   have ht1 := List.take_succ_eq_append_getElem (show k < l.length by omega)
   have ht2 := List.take_succ_eq_append_getElem (show k < m.length by omega)
   have hf : l = m → l[k]'(by omega) = m[k]'(by omega) := fun e => by subst e; rfl
   generalize l[k]'(by omega) = x at *
   generalize m[k]'(by omega) = y at *
   rw [f1, f2]
   by_cases he : x = y
   ·have hd : decide (x = y) = true := decide_eq_true he
    have hpre2 : l.take (k + 1) = m.take (k + 1) := by rw [ht1, ht2, hpre, he]
    repeat' (first | (refine Zz ?_; refine Zk (Zc rfl) rfl rfl ?_) | (refine Zh ?_; first | (refine Zf ?_; refine qQ ?_) | refine Zm ?_) | refine Zb ?_ | (refine Zi ?_; refine Zr ?_) | (refine Zj ?_; refine Zs ?_) | intro _)
    refine ZB (Zq _ _ _) Zy ?_
    all_goals (refine ZI 0 ?_; refine ZK ?_; refine ZI 1 ?_; refine rIa 2 ?_; refine ZU 3 ?_; refine ZI 4 ?_; refine ZI 5 ?_; refine rIa 6 ?_; refine ZU 7 ?_; refine rCm 8 ?_; refine ZE ?_)
    all_goals (try simp only [hd])
    all_goals (repeat' (first | (refine Zz ?_; refine Zk (Zc rfl) rfl rfl ?_) | (refine Zh ?_; first | (refine Zf ?_; refine qQ ?_) | refine Zm ?_) | refine Zb ?_ | (refine Zi ?_; refine Zr ?_) | (refine Zj ?_; refine Zs ?_) | intro _))
    all_goals rw [← f1, ← f2]
    all_goals refine Zp (k + 1) (⟨hlt, hpre2⟩) Zl Zl rfl tk inferInstance (by first | omega | (dsimp only; omega))
   ·have hd : decide (x = y) = false := decide_eq_false he
    rw [decide_eq_false (fun e => he (hf e))]
    repeat' (first | (refine Zz ?_; refine Zk (Zc rfl) rfl rfl ?_) | (refine Zh ?_; first | (refine Zf ?_; refine qQ ?_) | refine Zm ?_) | refine Zb ?_ | (refine Zi ?_; refine Zr ?_) | (refine Zj ?_; refine Zs ?_) | intro _)
    refine ZB (Zq _ _ _) Zy ?_
    all_goals (refine ZI 0 ?_; refine ZK ?_; refine ZI 1 ?_; refine rIa 2 ?_; refine ZU 3 ?_; refine ZI 4 ?_; refine ZI 5 ?_; refine rIa 6 ?_; refine ZU 7 ?_; refine rCm 8 ?_; refine ZE ?_)
    all_goals (try simp only [hd])
    all_goals (repeat' (first | (refine Zz ?_; refine Zk (Zc rfl) rfl rfl ?_) | (refine Zh ?_; first | (refine Zf ?_; refine qQ ?_) | refine Zm ?_) | refine Zb ?_ | (refine Zi ?_; refine Zr ?_) | (refine Zj ?_; refine Zs ?_) | intro _))
    all_goals exact qE (L' := []) ⟨rfl, rfl, rfl⟩
  ·have hk2 : k = s.n := by omega
   subst hk2
   rw [List.take_of_length_le (by omega), List.take_of_length_le (by omega)] at hpre
   rw [decide_eq_true hpre]
   repeat' (first | (refine Zz ?_; refine Zk (Zc rfl) rfl rfl ?_) | (refine Zh ?_; first | (refine Zf ?_; refine qQ ?_) | refine Zm ?_) | refine Zb ?_ | (refine Zi ?_; refine Zr ?_) | (refine Zj ?_; refine Zs ?_) | intro _)
   exact qE ⟨rfl, rfl, rfl⟩
 ·rw [decide_eq_false (fun e : l = m => hne (by rw [← hl, ← hm, e]))]
  repeat' (first | (refine Zz ?_; refine Zk (Zc rfl) rfl rfl ?_) | (refine Zh ?_; first | (refine Zf ?_; refine qQ ?_) | refine Zm ?_) | refine Zb ?_ | (refine Zi ?_; refine Zr ?_) | (refine Zj ?_; refine Zs ?_) | intro _)
  exact qE ⟨rfl, rfl, rfl⟩
theorem leastN_le {n : Nat} : ∀ {l : List Nat}, leastN n l ≤ n ∧ ∀ x ∈ l, leastN n l ≤ x := by
 intro l
 unfold leastN
 induction l generalizing n with
 | nil => simp
 | cons a r ih =>
  simp only [List.foldl_cons]
  obtain ⟨h1, h2⟩ := ih (n := min n a)
  refine ⟨by omega, fun x hx => ?_⟩
  rcases List.mem_cons.1 hx with rfl | hx
  ·omega
  ·exact h2 x hx
theorem makeE_zero {r : Ros} {l : List Yp} {lsn : Nat} (h : makeE r l lsn = 0) : YE l = true ∧ XD r = true ∧ ZZ (Xy r l lsn) = true := by
 unfold makeE at h
 cases h1 : YE l with
 | false => rw [h1] at h; simp at h
 | true =>
  cases h2 : XD r with
  | false => rw [h1, h2] at h; simp at h
  | true =>
   cases h3 : ZZ (Xy r l lsn) with
   | false => rw [h1, h2, h3] at h; simp at h
   | true => exact ⟨rfl, rfl, rfl⟩
theorem risesB_intro {α : Type} {most : Nat} {right : Nat → α → Bool} {lt : α → α → Bool} {l : List α} (h0 : l.length ≤ most) :
  ∀ {k : Nat}, k ≤ l.length → (∀ j (h : j < l.length), j < k → right j l[j] = true ∧ (0 < j → lt (l[j - 1]'(by omega)) l[j] = true)) → ZW most right lt l k = true
 | 0, _, _ => by rw [ZW]; exact decide_eq_true h0
 | k + 1, hk, h => by
  rw [Xt (show k < l.length by omega), risesB_intro h0 (by omega) (fun j hj hjk => h j hj (by omega)), Bool.true_and]
  obtain ⟨h1, h2⟩ := h k (by omega) (by omega)
  rw [h1, Bool.true_and]
  by_cases hk0 : k = 0
  ·rw [decide_eq_true hk0]; rfl
  ·rw [h2 (by omega), Bool.or_true]
abbrev R0 : Ros := ⟨1, []⟩
def Xk (l : List Rc) : Xm := l.foldl Yq ⟨1, []⟩
theorem rosF_app (l : List Rc) (r : Rc) : Xk (l ++ [r]) = Yq (Xk l) r := by
 unfold Xk; rw [List.foldl_append]; rfl
theorem rosF_take {l : List Rc} {k : Nat} (h : k < l.length) : Xk (l.take (k + 1)) = Yq (Xk (l.take k)) l[k] := by
 rw [List.take_succ_eq_append_getElem h, rosF_app]
def LogOk (l : List Rc) : Prop := ∀ i (h : i < l.length), ZZ l[i] = true ∧ l[i].lsn = i + 1 ∧ YC (Xk (l.take i)) l[i] = 0
theorem LogOk.app {l : List Rc} (h : LogOk l) {r : Rc} (h1 : ZZ r = true) (h2 : r.lsn = l.length + 1) (h3 : YC (Xk l) r = 0) : LogOk (l ++ [r]) := fun i hi => by
 rw [List.length_append, List.length_singleton] at hi
 by_cases hl : i < l.length
 ·rw [List.getElem_append_left hl, List.take_append_of_le_length (by omega)]
  exact h i hl
 ·obtain rfl : i = l.length := by omega
  rw [List.getElem_append_right (Nat.le_refl _), List.take_left]
  simp only [Nat.sub_self, List.getElem_cons_zero]
  exact ⟨h1, h2, h3⟩
structure RosK (p : Xm) (k : Nat) : Prop where
 g : RosG p
 tx : ∀ t ∈ p.txns, t.last ≤ k ∧ t.marks = []
theorem RosK.one : RosK ⟨1, []⟩ 0 := ⟨⟨by show (1 : Int) ≤ 1; omega, by show (1 : Int) ≤ 1073741824; omega, by simp, by simp, by simp⟩, by simp⟩
theorem nextT_plain {t : TxP} {r : Rc} (hm : t.marks = []) : (Wa t r).last = r.lsn ∧ (Wa t r).marks = [] ∧ (Wa t r).num = t.num ∧ (Wa t r).first = t.first := by
 unfold Wa pushT backT
 repeat' split
 all_goals simp [hm]
theorem RosK.take {p : Xm} {k : Nat} (h : RosK p k) {r : Rc} (hr : ZZ r = true) (hl : r.lsn = k + 1) (he : YC p r = 0) : RosK (Yq p r) (k + 1) := by
 refine ⟨takes_ok h.g hr he, fun t ht => ?_⟩
 have old : ∀ t ∈ p.txns, t.last ≤ k + 1 ∧ t.marks = [] := fun t ht => by have := h.tx t ht; exact ⟨by omega, this.2⟩
 unfold Yq at ht
 split at ht
 ·exact old t ht
 split at ht
 ·rcases List.mem_append.1 ht with ht | ht
  ·exact old t ht
  ·rw [List.mem_singleton.1 ht]; exact ⟨by show r.lsn ≤ k + 1; omega, rfl⟩
 unfold ownP at ht
 split at ht
 ·exact old t ht
 ·rename_i u hu
  split at ht
  ·exact old t ((List.mem_filter.1 ht).1)
  ·obtain ⟨x, hx, e⟩ := List.mem_map.1 ht
   split at e
   ·subst e
    obtain ⟨g1, g2, _, _⟩ := nextT_plain (r := r) (h.tx u (findT_mem hu).1).2
    exact ⟨by omega, g2⟩
   ·subst e; exact old x hx
theorem LogOk.ros {l : List Rc} (h : LogOk l) : ∀ {k : Nat}, k ≤ l.length → RosK (Xk (l.take k)) k
 | 0, _ => RosK.one
 | k + 1, hk => by
  obtain ⟨h1, h2, h3⟩ := h k (by omega)
  rw [rosF_take (by omega)]
  exact (h.ros (k := k) (by omega)).take h1 h2 h3
def dirS (l : List Rc) (m : Nat) : List Yp := match m with | 0 => [] | k + 1 => (l.getD k zRc).dirty
def dirF (l : List Rc) (m : Nat) : List Yp := (l.drop m).foldl (fun d r => Xd r d) (dirS l m)
theorem dirS_app {l l' : List Rc} {m : Nat} (h : m ≤ l.length) : dirS (l ++ l') m = dirS l m := by
 cases m with
 | zero => rfl
 | succ k =>
  unfold dirS
  dsimp only
  rw [List.getD_eq_getElem?_getD, List.getD_eq_getElem?_getD, List.getElem?_append_left (by omega)]
theorem dirF_app {l : List Rc} {m : Nat} (h : m ≤ l.length) (r : Rc) : dirF (l ++ [r]) m = Xd r (dirF l m) := by
 unfold dirF
 rw [dirS_app h, List.drop_append_of_le_length h, List.foldl_append]
 rfl
theorem dirF_self {l : List Rc} {m : Nat} (h : l.length ≤ m) : dirF l m = dirS l m := by
 unfold dirF
 rw [List.drop_of_length_le h]; rfl
structure TblK (d : List Yp) (k : Nat) : Prop where
 t : YE d = true
 s : ∀ p ∈ d, p.since ≤ k
theorem recP_of_mem {d : List Yp} (h : YE d = true) {p : Yp} (hp : p ∈ d) : XG p.page d = some p := by
 obtain ⟨i, hi, rfl⟩ := List.mem_iff_getElem.1 hp
 unfold XG
 rw [List.find?_eq_some_iff_getElem]
 refine ⟨by simp, i, hi, rfl, fun j hj => ?_⟩
 have := (tblB_lt h).2 j i hi hj
 simp; omega
theorem recP_mem {d : List Yp} {page : Int} {p : Yp} (h : XG page d = some p) : p ∈ d := List.mem_of_find?_eq_some h
theorem touchP_rec {d : List Yp} {r : Rc} (hd : YE d = true) (hr : ZZ r = true) : YE (Xd r d) = true ∧ ∀ page, XG page (Xd r d) = if (XG page d).isSome then XG page d else if (r.ims.find? (fun x => decide (x.page = page))).isSome then some ⟨page, r.lsn⟩ else none := by
 obtain ⟨⟨h1, h2⟩, hpg⟩ := recOk_touch hr
 exact touchI_tbl h1 h2 hpg hd
theorem TblK.touch {d : List Yp} {k : Nat} (h : TblK d k) {r : Rc} (hr : ZZ r = true) (hl : r.lsn = k + 1) : TblK (Xd r d) (k + 1) := by
 obtain ⟨g1, g2⟩ := touchP_rec h.t hr
 refine ⟨g1, fun p hp => ?_⟩
 have e := recP_of_mem g1 hp
 rw [g2] at e
 cases hh : XG p.page d with
 | some q =>
  rw [hh] at e
  simp only [Option.isSome_some, if_true] at e
  cases e
  have := h.s p (recP_mem hh)
  omega
 | none =>
  rw [hh] at e
  simp only [Option.isSome_none, Bool.false_eq_true, if_false] at e
  split at e
  ·rw [← Option.some.inj e]; show r.lsn ≤ k + 1; omega
  ·cases e
theorem ck_tbl {r : Rc} (hr : ZZ r = true) (h9 : r.kind = 9) : YE r.dirty = true ∧ ∀ p ∈ r.dirty, p.since < r.lsn := by
 have f := Xh hr
 unfold ZZ askOk at hr
 simp only [Bool.and_eq_true] at hr
 obtain ⟨_, _, ha, _⟩ := hr
 rw [if_neg (by omega), if_neg (by omega), if_neg (by omega), if_neg (by omega), if_pos h9] at ha
 simp only [Bool.and_eq_true] at ha
 have hlt : ∀ p ∈ r.dirty, p.since < r.lsn := fun p hp => by
  have := f.di p hp
  unfold ckPOk at this
  rw [Bool.and_eq_true, decide_eq_true_eq] at this
  omega
 refine ⟨?_, hlt⟩
 have hup := ha.2.2
 have hl := f.lsn.2.1
 rw [tblOk_up]
 unfold upB at hup ⊢
 obtain ⟨u1, u2⟩ := XQ hup (Nat.le_refl _)
 refine risesB_intro (Nat.le_refl _) (Nat.le_refl _) (fun j hj _ => ⟨?_, fun h0 => (u2 j hj hj).2.resolve_left (by omega)⟩)
 have h1 := (u2 j hj hj).1
 have h2 := hlt _ (List.getElem_mem hj)
 unfold ckPOk pageOk at h1
 rw [Bool.and_eq_true, decide_eq_true_eq, decide_eq_true_eq] at h1
 unfold pRight
 rw [decide_eq_true_eq]
 omega
structure StoG (l : List Rc) (p : Xm) (d : List Yp) (m : Nat) : Prop where
 log : LogOk l
 ros : Xk l = p
 ds : TblK d l.length
 fs : TblK (dirF l m) l.length
 mle : m ≤ l.length
 ck : ∀ k (h : k < l.length), m = k + 1 → l[k].kind = 9 ∧ l[k].nextTxn = (Xk (l.take k)).next ∧ l[k].txns = (Xk (l.take k)).txns.map ckT
 dr : ∀ page p, XG page d = some p → ∃ q, XG page (dirF l m) = some q ∧ q.since ≤ p.since
theorem StoG.new : StoG [] ⟨1, []⟩ [] 0 := ⟨fun i h => absurd h (Nat.not_lt_zero i), rfl, ⟨rfl, by simp⟩, ⟨rfl, by simp [dirF, dirS]⟩, Nat.le_refl _, fun k h => absurd h (Nat.not_lt_zero k), fun page p h => by simp [XG] at h⟩
theorem StoG.take {l p d m} (h : StoG l p d m) {r : Rc} (hr : ZZ r = true) (hl : r.lsn = l.length + 1) (he : YC p r = 0) : StoG (l ++ [r]) (Yq p r) (Xd r d) m := by
 have hd := h.ds.touch hr hl
 have hf := h.fs.touch hr hl
 have hD := dirF_app h.mle r
 have hmle := h.mle
 refine ⟨h.log.app hr hl (by rw [h.ros]; exact he), by rw [rosF_app, h.ros], by rw [List.length_append]; exact hd, by rw [List.length_append, hD]; exact hf, by rw [List.length_append]; omega, fun k hk hm => ?_, fun page q hq => ?_⟩
 ·have hkl : k < l.length := by omega
  rw [List.getElem_append_left hkl, List.take_append_of_le_length (by omega)]
  exact h.ck k hkl hm
 ·rw [hD]
  obtain ⟨-, g1⟩ := touchP_rec h.ds.t hr
  obtain ⟨-, g2⟩ := touchP_rec h.fs.t hr
  rw [g1] at hq
  cases hh : XG page d with
  | some x =>
   rw [hh] at hq
   simp only [Option.isSome_some, if_true] at hq
   cases hq
   obtain ⟨y, hy, hle⟩ := h.dr page q hh
   exact ⟨y, by rw [g2, hy]; rfl, hle⟩
  | none =>
   rw [hh] at hq
   simp only [Option.isSome_none, Bool.false_eq_true, if_false] at hq
   split at hq
   ·rename_i hs
    cases hq
    cases hy : XG page (dirF l m) with
    | some y => exact ⟨y, by rw [g2, hy]; rfl, by have := h.fs.s y (recP_mem hy); show y.since ≤ r.lsn; omega⟩
    | none => exact ⟨⟨page, r.lsn⟩, by rw [g2, hy, if_neg (by simp), if_pos hs], Nat.le_refl _⟩
   ·cases hq
theorem StoG.clean {l p d m} (h : StoG l p d m) (page : Int) (ht : YE (delP page d) = true) : StoG l p (delP page d) m := by
 refine ⟨h.log, h.ros, ⟨ht, fun q hq => h.ds.s q ((List.mem_filter.1 hq).1)⟩, h.fs, h.mle, h.ck, fun pg q hq => ?_⟩
 have hq1 := recP_mem hq
 have hp := recP_page hq
 have := recP_of_mem h.ds.t ((List.mem_filter.1 hq1).1)
 rw [hp] at this
 exact h.dr pg q this
theorem StoG.ckpt {l p d m} (h : StoG l p d m) {r : Rc} (hr : ZZ r = true) (hl : r.lsn = l.length + 1) (h9 : r.kind = 9) (hn : r.nextTxn = p.next) (ht : r.txns = p.txns.map ckT) (hd : r.dirty = d) : StoG (l ++ [r]) p d (l.length + 1) := by
 have he : YC (Xk l) r = 0 := by unfold YC; rw [if_pos h9]
 have hp : Yq (Xk l) r = Xk l := by unfold Yq; rw [if_pos h9]
 obtain ⟨c1, c2⟩ := ck_tbl hr h9
 have hDS : dirF (l ++ [r]) (l.length + 1) = d := by
  rw [dirF_self (by simp)]
  unfold dirS
  dsimp only
  rw [List.getD_eq_getElem?_getD, List.getElem?_append_right (Nat.le_refl _)]
  simp [hd]
 rw [hd] at c1 c2
 have hK : TblK d (l.length + 1) := ⟨c1, fun q hq => by have := c2 q hq; omega⟩
 refine ⟨h.log.app hr hl he, by rw [rosF_app, hp, h.ros], by rw [List.length_append]; exact hK, by rw [List.length_append, hDS]; exact hK, by simp, fun k hk hm => ?_, fun page q hq => ⟨q, by rw [hDS]; exact hq, Nat.le_refl _⟩⟩
 obtain rfl : k = l.length := by omega
 rw [List.getElem_append_right (Nat.le_refl _), List.take_left]
 simp only [Nat.sub_self, List.getElem_cons_zero]
 rw [h.ros]
 exact ⟨h9, hn, ht⟩
structure AnG (l : List Rc) (m base k : Nat) (a : AnP) : Prop where
 bs : a.base = base
 ms : a.master = m
 fs : a.fin = l.length + 1
 nx : a.next = k + 1
 kl : k ≤ l.length
 b1 : 1 ≤ base
 bk : base ≤ k + 1
 bm : (m = 0 → base = 1) ∧ (m ≠ 0 → base ≤ m)
 g : RosG a.ros
 ahead : k < m → a.dirty = [] ∧ a.ros.next ≤ (Xk (l.take k)).next ∧ a.ros.txns = (Xk (l.take k)).txns.filter (fun t => decide (base ≤ t.first))
 after : m ≤ k → a.ros = Xk (l.take k) ∧ a.dirty = dirF (l.take k) m
def CutLe (l : List Rc) (m base : Nat) : Prop := ∀ k (h : k < l.length), m = k + 1 → ∀ t ∈ l[k].txns, base ≤ t.first
theorem dirF_tbl {l : List Rc} {m : Nat} (h : LogOk l) (hck : ∀ k (h : k < l.length), m = k + 1 → l[k].kind = 9) : ∀ {k : Nat}, k ≤ l.length → m ≤ k → TblK (dirF (l.take k) m) k
 | 0, _, hm => by
  obtain rfl : m = 0 := by omega
  exact ⟨rfl, by simp [dirF, dirS]⟩
 | k + 1, hk, hm => by
  obtain ⟨h1, h2, h3⟩ := h k (by omega)
  rw [List.take_succ_eq_append_getElem (by omega)]
  by_cases hmk : m = k + 1
  ·subst hmk
   obtain ⟨c1, c2⟩ := ck_tbl h1 (hck k (by omega) rfl)
   rw [dirF_self (by simp; omega)]
   unfold dirS
   dsimp only
   rw [List.getD_eq_getElem?_getD, List.getElem?_append_right (by simp; omega)]
   have e : k - (l.take k).length = 0 := by simp; omega
   rw [e]
   simp only [List.getElem?_cons_zero, Option.getD_some]
   exact ⟨c1, fun p hp => by have := c2 p hp; omega⟩
  ·rw [dirF_app (by simp; omega)]
   exact (dirF_tbl h hck (k := k) (by omega) (by omega)).touch h1 h2
theorem AnG.right {l m base k a} (h : AnG l m base k a) (hl : LogOk l) (hck : ∀ k (h : k < l.length), m = k + 1 → l[k].kind = 9) (hm : m ≤ l.length) (hlen : l.length < 1099511627776) : Yn a = true := by
 have hR := hl.ros h.kl
 have hb := h.bm
 have hb1 := h.b1
 have hbk := h.bk
 have hkl := h.kl
 have hsub : ∀ t ∈ a.ros.txns, t.last < a.next ∧ t.marks = [] := fun t ht => by
  have : t ∈ (Xk (l.take k)).txns := by
   by_cases hkm : k < m
   ·rw [(h.ahead hkm).2.2] at ht; exact (List.mem_filter.1 ht).1
   ·rw [(h.after (by omega)).1] at ht; exact ht
  have := hR.tx t this
  rw [h.nx]
  exact ⟨by omega, this.2⟩
 have hD : YE a.dirty = true ∧ (∀ p ∈ a.dirty, p.since < a.next) ∧ (a.master < a.next ∨ a.dirty.length = 0) := by
  rw [h.nx, h.ms]
  by_cases hkm : k < m
  ·rw [(h.ahead hkm).1]
   exact ⟨rfl, by simp, .inr rfl⟩
  ·rw [(h.after (by omega)).2]
   have := dirF_tbl hl hck h.kl (show m ≤ k by omega)
   exact ⟨this.t, fun p hp => by have := this.s p hp; omega, .inl (by omega)⟩
 rw [rightA_iff]
 refine ⟨?_, rosG_iff.2 h.g, hD.1, hsub, hD.2.1, hD.2.2⟩
 unfold spansB
 rw [decide_eq_true_eq, h.bs, h.ms, h.fs, h.nx]
 refine ⟨by omega, by omega, by omega, by omega, by omega, hb.1, fun h0 => ⟨hb.2 h0, by omega⟩⟩
theorem filter_put {f : TxP → Bool} {u : TxP} : ∀ {l : List TxP}, (∀ x ∈ l, x.num = u.num → f x = f u) →
  (l.map (fun x => if x.num = u.num then u else x)).filter f = if f u then (l.filter f).map (fun x => if x.num = u.num then u else x) else l.filter f
 | [], _ => by cases f u <;> rfl
 | x :: r, h => by
  have ih := filter_put (f := f) (u := u) (l := r) (fun y hy => h y (by simp [hy]))
  have hx := h x (by simp)
  rw [List.map_cons, List.filter_cons, ih, List.filter_cons]
  by_cases hn : x.num = u.num
  ·rw [if_pos hn, hx hn]
   cases f u
   ·rfl
   ·simp [hn]
  ·rw [if_neg hn]
   cases f x <;> cases f u <;> simp [hn]
theorem filter_drop {f : TxP → Bool} {n : Int} {l : List TxP} : (l.filter (fun x => decide (x.num ≠ n))).filter f = (l.filter f).filter (fun x => decide (x.num ≠ n)) := by
 rw [List.filter_filter, List.filter_filter]
 congr 1
 funext x
 rw [Bool.and_comm]
theorem find_filter {f : TxP → Bool} {n : Int} {p : Xm} (hg : RosG p) {t : TxP} (h : XB p n = some t) (next : Int) : XB ⟨next, p.txns.filter f⟩ n = if f t then some t else none := by
 obtain ⟨hm, hn⟩ := findT_mem h
 have huniq : ∀ x ∈ p.txns, x.num = n → x = t := fun x hx he => by
  obtain ⟨i, hi, rfl⟩ := List.mem_iff_getElem.1 hx
  have := findT_idx hg hi
  rw [he, h] at this
  exact (Option.some.inj this).symm
 cases hf : f t
 ·rw [if_neg (by simp)]
  unfold XB
  rw [List.find?_eq_none]
  intro x hx c
  have hx1 := List.mem_filter.1 hx
  have := huniq x hx1.1 (by simpa using c)
  rw [this, hf] at hx1
  exact absurd hx1.2 (by simp)
 ·rw [if_pos rfl]
  unfold XB
  cases hq : (p.txns.filter f).find? (fun t => decide (t.num = n)) with
  | none =>
   have := List.find?_eq_none.1 hq t (List.mem_filter.2 ⟨hm, hf⟩)
   simp [hn] at this
  | some x =>
   have h1 := List.mem_filter.1 (List.mem_of_find?_eq_some hq)
   have h2 := List.find?_some hq
   rw [huniq x h1.1 (by simpa using h2)]
theorem takes_same {p q : Xm} {r : Rc} (hk : r.kind ≠ 9 ∧ r.kind ≠ 1) (hf : XB q r.txn = XB p r.txn) (he : YC p r = 0) : YC q r = 0 := by
 unfold YC at he ⊢
 rw [if_neg hk.1, if_neg hk.2] at he ⊢
 rwa [hf]
theorem AnG.step {l m base k a} (h : AnG l m base k a) (hl : LogOk l) (hck : ∀ k (h : k < l.length), m = k + 1 → l[k].kind = 9 ∧ l[k].nextTxn = (Xk (l.take k)).next ∧ l[k].txns = (Xk (l.take k)).txns.map ckT) (hcut : CutLe l m base) (hk : k < l.length) :
  ∃ b, Wr a l[k] = some b ∧ AnG l m base (k + 1) { b with next := b.next + 1 } := by
 obtain ⟨hr, hn, he⟩ := hl k hk
 have hR := hl.ros (Nat.le_of_lt hk)
 have hRk := rosF_take hk
 have hR1 := hl.ros (show k + 1 ≤ l.length by omega)
 have hDk : m ≤ k → dirF (l.take (k + 1)) m = Xd l[k] (dirF (l.take k) m) := fun hm => by
  rw [List.take_succ_eq_append_getElem hk, dirF_app (by simp; omega)]
 have hnx := h.nx
 have hms := h.ms
 have hf := Xh hr
 have mk : ∀ b : AnP, b.base = a.base → b.master = a.master → b.fin = a.fin → b.next = a.next → RosG b.ros →
   (k + 1 < m → b.dirty = [] ∧ b.ros.next ≤ (Xk (l.take (k + 1))).next ∧ b.ros.txns = (Xk (l.take (k + 1))).txns.filter (fun t => decide (base ≤ t.first))) →
   (m ≤ k + 1 → b.ros = Xk (l.take (k + 1)) ∧ b.dirty = dirF (l.take (k + 1)) m) → AnG l m base (k + 1) { b with next := b.next + 1 } := fun b e1 e2 e3 e4 hg h1 h2 =>
  ⟨e1.trans h.bs, e2.trans h.ms, e3.trans h.fs, by show b.next + 1 = k + 1 + 1; rw [e4, hnx], hk, h.b1, by have := h.bk; omega, h.bm, hg, h1, h2⟩
 unfold Wr
 rw [hnx, hms]
 rcases Nat.lt_trichotomy (k + 1) m with hlt | heq | hgt
 ·-- ahead
  rw [if_neg (by omega), if_pos hlt]
  obtain ⟨ha1, ha2, ha3⟩ := h.ahead (by omega)
  by_cases k1 : l[k].kind = 1
  ·have he2 := he
   unfold YC at he2
   rw [if_neg (by omega), if_pos k1] at he2
   have hT : ¬ (l[k].txn ≠ (Xk (l.take k)).next ∨ (Xk (l.take k)).next = 1073741824) := fun c => by rw [if_pos c] at he2; exact absurd he2 (by decide)
   rw [if_neg hT] at he2
   have hL : ¬ 8 ≤ (Xk (l.take k)).txns.length := fun c => by rw [if_pos c] at he2; exact absurd he2 (by decide)
   have hfl : a.ros.txns.length ≤ (Xk (l.take k)).txns.length := by rw [ha3]; exact List.length_filter_le _ _
   have hE : YC ⟨l[k].txn, a.ros.txns⟩ l[k] = 0 := by
    unfold YC
    rw [if_neg (by omega), if_pos k1, if_neg (by dsimp only; omega), if_neg (by dsimp only; omega)]
   have hP : Yq ⟨l[k].txn, a.ros.txns⟩ l[k] = ⟨l[k].txn + 1, a.ros.txns ++ [newT l[k]]⟩ := by
    unfold Yq; rw [if_neg (by omega), if_pos k1]
   have hP0 : Yq (Xk (l.take k)) l[k] = ⟨(Xk (l.take k)).next + 1, (Xk (l.take k)).txns ++ [newT l[k]]⟩ := by
    unfold Yq; rw [if_neg (by omega), if_pos k1]
   rw [if_pos k1, if_neg (by omega)]
   unfold tkA
   rw [if_pos hE, hP]
   refine ⟨_, rfl, mk _ rfl rfl rfl rfl ?_ (fun _ => ⟨ha1, ?_, ?_⟩) (fun c => by omega)⟩
   ·rw [← hP]
    exact takes_ok (h.g.more (by omega) hf.txn.2) hr hE
   ·rw [hRk, hP0]
    show l[k].txn + 1 ≤ _
    dsimp only
    omega
   ·rw [hRk, hP0, List.filter_append, ← ha3]
    have : decide (base ≤ (newT l[k]).first) = true := decide_eq_true (by show base ≤ l[k].lsn; have := h.bk; omega)
    rw [List.filter_cons, this]
    rfl
  ·rw [if_neg k1]
   by_cases k9 : l[k].kind = 9
   ·have h0 : l[k].txn = 0 := by
     have := hr
     unfold ZZ headOk at this
     simp only [Bool.and_eq_true, decide_eq_true_eq] at this
     exact (this.2.1.2.2.2.2.2.1).1 k9
    have hno : XB a.ros l[k].txn = none := by
     unfold XB
     rw [List.find?_eq_none]
     intro x hx c
     have := (h.g.tx x hx).1
     have c : x.num = l[k].txn := by simpa using c
     omega
    have hP0 : Yq (Xk (l.take k)) l[k] = Xk (l.take k) := by unfold Yq; rw [if_pos k9]
    rw [if_pos hno]
    exact ⟨_, rfl, mk _ rfl rfl rfl rfl h.g (fun _ => ⟨ha1, by rw [hRk, hP0]; exact ha2, by rw [hRk, hP0]; exact ha3⟩) (fun c => by omega)⟩
   have he2 := he
   unfold YC at he2
   rw [if_neg k9, if_neg k1] at he2
   cases hfd : XB (Xk (l.take k)) l[k].txn with
   | none => rw [hfd] at he2; exact absurd he2 (show ¬ (4 : Int) = 0 by decide)
   | some t =>
    obtain ⟨htm, htn⟩ := findT_mem hfd
    have hff := find_filter (f := fun t => decide (base ≤ t.first)) hR.g hfd a.ros.next
    have hros : (⟨a.ros.next, (Xk (l.take k)).txns.filter (fun t => decide (base ≤ t.first))⟩ : Xm) = a.ros := by rw [← ha3]
    rw [hros] at hff
    have hP0 : Yq (Xk (l.take k)) l[k] = if l[k].kind = 8 then dropT (Xk (l.take k)) l[k].txn else putT (Xk (l.take k)) (Wa t l[k]) := by
     unfold Yq ownP; rw [if_neg k9, if_neg k1, hfd]
    obtain ⟨_, _, nn, nf⟩ := nextT_plain (r := l[k]) (hR.tx t htm).2
    have huniq : ∀ x ∈ (Xk (l.take k)).txns, x.num = t.num → x = t := fun x hx he => by
     obtain ⟨i, hi, rfl⟩ := List.mem_iff_getElem.1 hx
     have := findT_idx hR.g hi
     rw [he, htn, hfd] at this
     exact (Option.some.inj this).symm
    have hput : (putT (Xk (l.take k)) (Wa t l[k])).txns.filter (fun t => decide (base ≤ t.first)) = if decide (base ≤ t.first) then (a.ros.txns.map (fun x => if x.num = (Wa t l[k]).num then Wa t l[k] else x)) else a.ros.txns := by
     unfold putT
     dsimp only
     rw [filter_put (fun x hx hxn => by rw [huniq x hx (by rw [hxn, nn]), nf]), nf, ha3]
    have hdrop : (dropT (Xk (l.take k)) l[k].txn).txns.filter (fun t => decide (base ≤ t.first)) = a.ros.txns.filter (fun x => decide (x.num ≠ l[k].txn)) := by
     unfold dropT
     dsimp only
     rw [filter_drop, ha3]
    by_cases hb : base ≤ t.first
    ·rw [decide_eq_true hb, if_pos rfl] at hff
     rw [decide_eq_true hb, if_pos rfl] at hput
     have hE : YC a.ros l[k] = 0 := takes_same ⟨k9, k1⟩ (by rw [hff, hfd]) he
     have hP : Yq a.ros l[k] = if l[k].kind = 8 then dropT a.ros l[k].txn else putT a.ros (Wa t l[k]) := by
      unfold Yq ownP; rw [if_neg k9, if_neg k1, hff]
     rw [if_neg (by rw [hff]; simp)]
     unfold tkA
     rw [if_pos hE]
     refine ⟨_, rfl, mk _ rfl rfl rfl rfl (takes_ok h.g hr hE) (fun _ => ⟨ha1, ?_, ?_⟩) (fun c => by omega)⟩
     ·rw [hRk, hP, hP0]
      split
      ·exact ha2
      ·exact ha2
     ·rw [hRk, hP, hP0]
      split
      ·rw [hdrop]; rfl
      ·rw [hput]; rfl
    ·rw [decide_eq_false hb, if_neg (by simp)] at hff
     rw [decide_eq_false hb, if_neg (by simp)] at hput
     rw [if_pos hff]
     refine ⟨_, rfl, mk _ rfl rfl rfl rfl h.g (fun _ => ⟨ha1, ?_, ?_⟩) (fun c => by omega)⟩
     ·rw [hRk, hP0]
      split
      ·exact ha2
      ·exact ha2
     ·rw [hRk, hP0]
      split
      ·rw [hdrop, eq_comm, List.filter_eq_self]
       intro x hx
       have h1 : x ∈ (Xk (l.take k)).txns.filter (fun t => decide (base ≤ t.first)) := by rw [← ha3]; exact hx
       obtain ⟨h1, h2⟩ := List.mem_filter.1 h1
       refine decide_eq_true (fun c => ?_)
       rw [huniq x h1 (by rw [c, htn])] at h2
       exact hb (by simpa using h2)
      ·rw [hput]
 ·-- at the checkpoint
  subst heq
  rw [if_pos rfl]
  obtain ⟨c9, cn, ct⟩ := hck k hk rfl
  obtain ⟨ha1, ha2, ha3⟩ := h.ahead (by omega)
  have hall : a.ros.txns = (Xk (l.take k)).txns := by
   rw [ha3, List.filter_eq_self]
   intro t ht
   exact decide_eq_true (hcut k hk rfl (ckT t) (by rw [ct]; exact List.mem_map.2 ⟨t, ht, rfl⟩))
  have hP0 : Yq (Xk (l.take k)) l[k] = Xk (l.take k) := by unfold Yq; rw [if_pos c9]
  rw [if_neg (by
   rintro (c | c | c)
   ·exact c c9
   ·omega
   ·exact c (by rw [ct, hall]))]
  have hrr : (⟨l[k].nextTxn, a.ros.txns⟩ : Xm) = Xk (l.take (k + 1)) := by rw [hRk, hP0, cn, hall]
  refine ⟨_, rfl, mk _ rfl hms.symm rfl hnx.symm ?_ (fun c => absurd c (by omega)) (fun _ => ⟨hrr, ?_⟩)⟩
  ·show RosG ⟨l[k].nextTxn, a.ros.txns⟩
   rw [hrr]; exact hR1.g
  ·show l[k].dirty = _
   rw [dirF_self (by simp; omega)]
   unfold dirS
   dsimp only
   rw [List.getD_eq_getElem?_getD, List.getElem?_take_of_lt (by omega), List.getElem?_eq_getElem hk]
   rfl
 ·-- behind it
  rw [if_neg (by omega), if_neg (by omega)]
  obtain ⟨ha1, ha2⟩ := h.after (by omega)
  unfold tkA
  rw [ha1, if_pos he]
  refine ⟨_, rfl, mk _ rfl rfl rfl rfl ?_ (fun c => by omega) (fun _ => ⟨hRk.symm, ?_⟩)⟩
  ·show RosG (Yq (Xk (l.take k)) l[k])
   rw [← hRk]; exact hR1.g
  ·show Xd l[k] a.dirty = _
   rw [hDk (by omega), ha2]
theorem AnG.stepA {l m base k a} (h : AnG l m base k a) (hl : LogOk l) (hck : ∀ k (h : k < l.length), m = k + 1 → l[k].kind = 9 ∧ l[k].nextTxn = (Xk (l.take k)).next ∧ l[k].txns = (Xk (l.take k)).txns.map ckT) (hcut : CutLe l m base) (hm : m ≤ l.length) (hlen : l.length < 1099511627776) (hk : k < l.length) :
  Xn a l[k] = 0 ∧ AnG l m base (k + 1) (Wt a l[k]) ∧ Yn (Wt a l[k]) = true := by
 have hck9 : ∀ k (h : k < l.length), m = k + 1 → l[k].kind = 9 := fun k h e => (hck k h e).1
 obtain ⟨b, e1, h1⟩ := h.step hl hck hcut hk
 have hr1 := h1.right hl hck9 hm hlen
 have hr0 := h.right hl hck9 hm hlen
 obtain ⟨hr, hn, _⟩ := hl k hk
 have hon : onA a l[k] = some { b with next := b.next + 1 } := by
  unfold onA; rw [e1]; dsimp only; rw [if_pos hr1]
 have hE : Xn a l[k] = 0 := by
  unfold Xn
  rw [hr0, hon, hr, if_pos rfl, if_neg (by rw [h.nx, h.fs]; omega), if_pos rfl, if_neg (by rw [hn, h.nx]; simp)]
  rfl
 have hP : Wt a l[k] = { b with next := b.next + 1 } := by
  unfold Wt; rw [if_pos hE, hon]; rfl
 rw [hP]
 exact ⟨hE, h1, hr1⟩
theorem AnG.begin {l : List Rc} {m base : Nat} (hl : LogOk l) (hm : m ≤ l.length) (hb1 : 1 ≤ base) (hbm : (m = 0 → base = 1) ∧ (m ≠ 0 → base ≤ m)) : AnG l m base (base - 1) (newA base m (l.length + 1)) := by
 have hkl : base - 1 ≤ l.length := by rcases Nat.eq_zero_or_pos m with h | h; (have := hbm.1 h; omega); (have := hbm.2 (by omega); omega)
 have hR := hl.ros hkl
 refine ⟨rfl, rfl, rfl, by show base = base - 1 + 1; omega, hkl, hb1, by omega, hbm, RosK.one.g, fun hk => ⟨rfl, ?_, ?_⟩, fun hk => ?_⟩
 ·show (1 : Int) ≤ _
  exact hR.g.n1
 ·show ([] : List TxP) = _
  rw [eq_comm, List.filter_eq_nil_iff]
  intro t ht
  have h1 := hR.tx t ht
  have h2 := (hR.g.tx t ht).2.2
  have h3 := h2.fu
  have h4 := h2.ul
  have h5 := h2.f1
  simp only [decide_eq_true_eq]
  omega
 ·have h0 : m = 0 := by
   rcases Nat.eq_zero_or_pos m with h | h
   ·exact h
   ·have := hbm.2 (by omega); omega
  subst h0
  have := hbm.1 rfl
  subst this
  exact ⟨rfl, rfl⟩
theorem AnG.last {l p d m base a} (h : AnG l m base l.length a) (hS : StoG l p d m) : a.next = a.fin ∧ a.ros = p ∧ (∀ q ∈ d, ∃ x, XG q.page a.dirty = some x ∧ x.since ≤ q.since) := by
 obtain ⟨h1, h2⟩ := h.after hS.mle
 rw [List.take_length] at h1 h2
 refine ⟨by rw [h.nx, h.fs], by rw [h1, hS.ros], fun q hq => ?_⟩
 rw [h2]
 exact hS.dr q.page q (recP_of_mem hS.ds.t hq)
structure AnD where
 base : Nat
 master : Nat
 fin : Nat
 next : Nat
 rv : SV
 ro : Ros
 dv : SV
 dirty : List Yp
abbrev AnD.p (d : AnD) : AnP := ⟨d.base, d.master, d.fin, d.next, d.ro.p, d.dirty⟩
abbrev anV (d : AnD) : List Value := [.int .u64 d.base, .int .u64 d.master, .int .u64 d.fin, .int .u64 d.next, .int .i64 d.ro.next, .slice d.rv.a d.rv.n d.rv.c, .slice d.dv.a d.dv.n d.dv.c]
structure AnIn (ρ : Hp) (d : AnD) : Prop where
 r : RosIn ρ d.rv d.ro
 d : AS ρ 2 YM d.dv d.dirty
theorem AnIn.mono {ρ ρ' d} (h : AnIn ρ d) (hle : ρ.le ρ') : AnIn ρ' d := ⟨h.r.mono hle, h.d.mono hle⟩
def zeroD : AnD := ⟨0, 0, 0, 0, Yz, ⟨0, []⟩, Yz, []⟩
theorem XJ {ρ : Hp} : AnIn ρ zeroD := ⟨⟨AS.nil, by simp [zeroD]⟩, AS.nil⟩
structure AnW (ρ : Hp) (d : AnD) : Prop where
 r : RosW ρ d.rv d.ro
 d : AW ρ 2 YM d.dv d.dirty
theorem AnW.mono {ρ ρ' d} (h : AnW ρ d) (hle : ρ.le ρ') : AnW ρ' d := ⟨h.r.mono hle, h.d.mono hle⟩
theorem AnW.in' {ρ d} (h : AnW ρ d) (hr : d.rv.n ≤ 1000000) (hd : d.dv.n ≤ 1000000) : AnIn ρ d := ⟨h.r.in' hr, ⟨h.d.at', hd, h.d.cap⟩⟩
section
variable {H : Type} {enc : TypeId × Value → H} {w : World}
theorem opnS_an : OpnS enc Tryz.prog w 67 (fun cs (x : AnD) => cs = anV x ∧ AnW (hpOf w) x) := fun fuel cs x h hw => by
 obtain ⟨hl, hf⟩ := YD Tryz.underlying67 h hw
 have hl : cs.length = 7 := by rw [hl]; kernel_rfl
 obtain ⟨c0, c1, c2, c3, c4, c5, c6, rfl⟩ : ∃ c0 c1 c2 c3 c4 c5 c6, cs = [c0, c1, c2, c3, c4, c5, c6] := by
  match cs, hl with
  | [c0, c1, c2, c3, c4, c5, c6], _ => exact ⟨c0, c1, c2, c3, c4, c5, c6, rfl⟩
 obtain ⟨b, h0, b0, _⟩ := ZD h hw Tryz.underlying67 0 0 1 rfl rfl rfl (by kernel_rfl) (Yh Tryz.underlying28).sized
 obtain ⟨m, h1, m0, _⟩ := ZD h hw Tryz.underlying67 1 1 1 rfl rfl rfl (by kernel_rfl) (Yh Tryz.underlying28).sized
 obtain ⟨e, h2, e0, _⟩ := ZD h hw Tryz.underlying67 2 2 1 rfl rfl rfl (by kernel_rfl) (Yh Tryz.underlying28).sized
 obtain ⟨n, h3, n0, _⟩ := ZD h hw Tryz.underlying67 3 3 1 rfl rfl rfl (by kernel_rfl) (Yh Tryz.underlying28).sized
 obtain ⟨⟨rv, ro⟩, h4, w4⟩ := ZD h hw Tryz.underlying67 4 4 2 rfl rfl rfl (by kernel_rfl) opnS_roster
 obtain ⟨⟨da, dn, dc, ds⟩, h5, w5⟩ := ZD h hw Tryz.underlying67 5 6 1 rfl rfl rfl (by kernel_rfl) (Xc (sz := 2) (by' := 16) Tryz.underlying32 (by kernel_rfl) (by decide) (by kernel_rfl) opnS_ckp)
 obtain ⟨d1, d2, d3, _⟩ := We Wd h5
 simp only [reachBytes] at w5
 replace h5 := h5.cells
 simp only [List.drop_zero, List.drop_succ_cons, List.take_succ_cons, List.take_zero, List.cons.injEq, and_true, XI] at h0 h1 h2 h3 h4 h5
 obtain ⟨rfl, rfl⟩ := h4
 subst h0; subst h1; subst h2; subst h3; subst h5
 refine ⟨⟨b.toNat, m.toNat, e.toNat, n.toNat, rv, ro, ⟨da, dn, dc⟩, ds⟩, ?_, ⟨w4, ⟨d1, by dsimp only; omega, d3⟩⟩⟩
 simp only [anV, YK b0, YK m0, YK e0, YK n0]
end
end Go.Proofs.E
