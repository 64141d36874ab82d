/- Laws of RedoLast. Part 17 of 19. -/
import Derived.Test.YtpcfmhifkkpjpaaGreatB16
namespace Go.Proofs.E
open Go
set_option linter.unusedVariables false
set_option linter.unusedSimpArgs false
set_option linter.unusedSectionVars false
set_option maxRecDepth 4000
set_option maxHeartbeats 1000000
attribute [local irreducible] Yl TL TC TE Spec ZK R1 Hp.le EnvLe TS TR YS Zp
abbrev i64c (i : Int) : Value := .int .i64 i
structure CW (ρ : Hp) (v : CV) (c : Yi) : Prop where
 r : AIn ρ 4 Yu v.ra v.rn c.rows
 k : AIn ρ 3 Xj v.ka v.kn c.kids
 rb : v.rn ≤ 140737488355328
 kb : v.kn ≤ 140737488355328
 rc : v.rn ≤ v.rc
 kc : v.kn ≤ v.kc
 row : ∀ r ∈ c.rows, WU r
 kid : ∀ k ∈ c.kids, k.id < 65536
structure AW (ρ : Hp) (sz : Nat) {α : Type} (g : α → List Value) (s : SV) (l : List α) : Prop where
 at' : AIn ρ sz g s.a s.n l
 big : s.n ≤ 140737488355328
 cap : s.n ≤ s.c
structure RcW (ρ : Hp) (v : RV) (r : Rc) : Prop where
 i : AW ρ 7 imV v.i r.ims
 im : ∀ x ∈ r.ims, CW ρ x.bv x.b ∧ CW ρ x.av x.a
 s : AW ρ 6 stpV v.s r.steps
 t : AW ρ 5 ckTV v.t r.txns
 d : AW ρ 2 YN v.d r.dirty
 sf : ∀ s ∈ r.steps, WU s.row
theorem CW.mono {ρ ρ' v c} (h : CW ρ v c) (hle : ρ.le ρ') : CW ρ' v c := ⟨h.r.mono hle, h.k.mono hle, h.rb, h.kb, h.rc, h.kc, h.row, h.kid⟩
theorem AW.mono {ρ ρ' : Hp} {sz : Nat} {α : Type} {g : α → List Value} {s : SV} {l : List α} (h : AW ρ sz g s l) (hle : ρ.le ρ') : AW ρ' sz g s l := ⟨h.at'.mono hle, h.big, h.cap⟩
theorem RcW.mono {ρ ρ' v r} (h : RcW ρ v r) (hle : ρ.le ρ') : RcW ρ' v r := ⟨h.i.mono hle, fun x hx => ⟨(h.im x hx).1.mono hle, (h.im x hx).2.mono hle⟩, h.s.mono hle, h.t.mono hle, h.d.mono hle, h.sf⟩
instance (priority := 1200) eqCkP {x y : CkP} : EqC Tryz.prog 8 108 (.agg ⟨YN x⟩) (.agg ⟨YN y⟩) (decide (x = y)) := by
 have h : EqC Tryz.prog 8 108 (.agg ⟨[.int .i64 x.page, .int .u64 x.since]⟩) (.agg ⟨[.int .i64 y.page, .int .u64 y.since]⟩) _ := inferInstance
 refine ⟨fun d w hd => ?_⟩
 rw [h.out d w hd]
 congr 1
 obtain ⟨t, i⟩ := x
 obtain ⟨t', i'⟩ := y
 simp only [CkP.mk.injEq, Bool.and_true, Bool.decide_and]
 have e : ((i : Int) == (i' : Int)) = decide (i = i') := by
  by_cases h : i = i'
  ·subst h; simp
  ·rw [decide_eq_false h]; simp only [beq_eq_false_iff_ne, ne_eq]; omega
 rw [e]
 by_cases h1 : t = t' <;> by_cases h2 : i = i' <;> simp [h1, h2]
end Go.Proofs.E
namespace Go.Proofs.E
open Go
set_option linter.unusedVariables false
set_option linter.unusedSimpArgs false
set_option linter.unusedSectionVars false
set_option maxRecDepth 4000
set_option maxHeartbeats 1000000
attribute [local irreducible] Yl TL TC TE Spec ZK R1 Hp.le EnvLe TS TR YS Zp TP QP
instance (priority := 1200) eqCkT {x y : CkT} : EqC Tryz.prog 8 187 (.agg ⟨ckTV x⟩) (.agg ⟨ckTV y⟩) (decide (x = y)) := by
 have h : EqC Tryz.prog 8 187 (.agg ⟨[.int .i64 x.txn, .int .u64 x.first, .int .u64 x.last, .int .u64 x.undo, .int .i64 x.state]⟩) (.agg ⟨[.int .i64 y.txn, .int .u64 y.first, .int .u64 y.last, .int .u64 y.undo, .int .i64 y.state]⟩) _ := inferInstance
 refine ⟨fun d w hd => ?_⟩
 rw [h.out d w hd]
 congr 1
 obtain ⟨t, a, b, c, s⟩ := x
 obtain ⟨t', a', b', c', s'⟩ := y
 simp only [CkT.mk.injEq, Bool.and_true, Bool.decide_and]
 have e : ∀ i i' : Nat, ((i : Int) == (i' : Int)) = decide (i = i') := fun i i' => by
  by_cases h : i = i'
  ·subst h; simp
  ·rw [decide_eq_false h]; simp only [beq_eq_false_iff_ne, ne_eq]; omega
 rw [e, e, e]
 have e2 : ∀ i i' : Int, (i == i') = decide (i = i') := fun i i' => by
  by_cases h : i = i' <;> simp [h]
 rw [e2, e2]
instance (priority := 1200) eqStp {x y : Stp} : EqC Tryz.prog 8 173 (.agg ⟨stpV x⟩) (.agg ⟨stpV y⟩) (decide (x = y)) := by
 have h : EqC Tryz.prog 8 173 (.agg ⟨[.int .i64 x.kind, .int .i64 x.row.t, .int .u16 x.row.id, .int .i64 x.row.val, strV x.row.note, .int .i64 x.by']⟩) (.agg ⟨[.int .i64 y.kind, .int .i64 y.row.t, .int .u16 y.row.id, .int .i64 y.row.val, strV y.row.note, .int .i64 y.by']⟩) _ := inferInstance
 refine ⟨fun d w hd => ?_⟩
 rw [h.out d w hd]
 congr 1
 obtain ⟨k, ⟨t, i, v, n⟩, b⟩ := x
 obtain ⟨k', ⟨t', i', v', n'⟩, b'⟩ := y
 simp only [Stp.mk.injEq, Row.mk.injEq, Bool.and_true, Bool.decide_and]
 have e : ∀ i i' : Nat, ((i : Int) == (i' : Int)) = decide (i = i') := fun i i' => by
  by_cases h : i = i'
  ·subst h; simp
  ·rw [decide_eq_false h]; simp only [beq_eq_false_iff_ne, ne_eq]; omega
 rw [e]
 have e2 : ∀ i i' : Int, (i == i') = decide (i = i') := fun i i' => by
  by_cases h : i = i' <;> simp [h]
 rw [e2, e2, e2, e2]
 simp only [Bool.and_assoc]
end Go.Proofs.E
namespace Go.Proofs.E
open Go
set_option linter.unusedVariables false
set_option linter.unusedSimpArgs false
set_option linter.unusedSectionVars false
set_option maxRecDepth 4000
set_option maxHeartbeats 1000000
attribute [local irreducible] Yl TL TC TE Spec ZK R1 Hp.le EnvLe TS TR YS Zp
def shortR (r : Row) : Row := ⟨r.t, r.id, r.val, r.note.take 9⟩
def fewC (c : Yi) : Yi := ⟨c.kind, (c.rows.take 5).map shortR, c.kids.take 5⟩
theorem take_min9 (l : List UInt8) : l.take (min (l.length : Int) 9).toNat = l.take 9 := by
 by_cases h : l.length ≤ 9
 ·rw [show (min (l.length : Int) 9).toNat = l.length by omega, List.take_of_length_le (Nat.le_refl _), List.take_of_length_le h]
 ·rw [show (min (l.length : Int) 9).toNat = 9 by omega]
structure CInW (ρ : Hp) (v : CV) (rows : List Row) (kids : List Kid) : Prop where
 r : AIn ρ 4 Yu v.ra v.rn rows
 k : AIn ρ 3 Xj v.ka v.kn kids
 rb : v.rn ≤ 9223372036854775807
 kb : v.kn ≤ 9223372036854775807
 rc : v.rn ≤ v.rc
 kc : v.kn ≤ v.kc
theorem CInW.mono {ρ ρ' v rows kids} (h : CInW ρ v rows kids) (hle : ρ.le ρ') : CInW ρ' v rows kids := ⟨h.r.mono hle, h.k.mono hle, h.rb, h.kb, h.rc, h.kc⟩
theorem flatK_one (l : List Kid) : ((l.map Xj).flatten).all (·.oneCell') = true := by
 induction l with
 | nil => rfl
 | cons k r ih => simp only [List.map_cons, List.flatten_cons, List.all_append, ih, Bool.and_true]; rfl
theorem flatR_one (l : List Row) : ((l.map Yu).flatten).all (·.oneCell') = true := by
 induction l with
 | nil => rfl
 | cons k r ih => simp only [List.map_cons, List.flatten_cons, List.all_append, ih, Bool.and_true]; rfl
theorem take_five {α : Type} (l : List α) (n m : Nat) (h : l.length = n) (hm : m = min n 5) : l.take m = l.take 5 := by
 by_cases h5 : n ≤ 5
 ·rw [show m = n by omega, List.take_of_length_le (by omega), List.take_of_length_le (by omega)]
 ·rw [show m = 5 by omega]
theorem row_get {sp : List Value} : ∀ (acc : List Row) (k : Nat) (r : Row), acc[k]? = some r → ((acc.map Yu).flatten ++ sp)[0 + k * 4 + 3]? = some (strV r.note)
 | [], k, r, h => by cases h
 | a :: t, 0, r, h => by cases h; rfl
 | a :: t, k + 1, r, h => by
  have ih := row_get (sp := sp) t k r (by simpa using h)
  rw [show 0 + (k + 1) * 4 + 3 = (0 + k * 4 + 3) + 4 by omega]
  simpa only [List.map_cons, List.flatten_cons, Yu, kA, List.getElem?_cons_succ] using ih
theorem row_set {sp : List Value} (s : List UInt8) : ∀ (acc : List Row) (k : Nat) (r : Row), acc[k]? = some r → ((acc.map Yu).flatten ++ sp).set (0 + k * 4 + 3) (strV s) = ((acc.set k ⟨r.t, r.id, r.val, s⟩).map Yu).flatten ++ sp
 | [], k, r, h => by cases h
 | a :: t, 0, r, h => by cases h; rfl
 | a :: t, k + 1, r, h => by
  have ih := row_set (sp := sp) s t k r (by simpa using h)
  rw [show 0 + (k + 1) * 4 + 3 = (0 + k * 4 + 3) + 4 by omega]
  simp only [List.map_cons, List.flatten_cons, Yu, kA, List.set_cons_succ]
  rw [ih]
theorem row_setL {sp : List Value} (s : List UInt8) {acc : List Row} {k : Nat} {r : Row} (h : acc[k]? = some r) : SetL ((acc.map Yu).flatten ++ sp) (0 + k * 4 + 3) (strV s) (((acc.set k ⟨r.t, r.id, r.val, s⟩).map Yu).flatten ++ sp) := by
 have h1 := row_get (sp := sp) acc k r h
 have hlt : 0 + k * 4 + 3 < ((acc.map Yu).flatten ++ sp).length := by
  rcases Nat.lt_or_ge (0 + k * 4 + 3) ((acc.map Yu).flatten ++ sp).length with hh | hh
  ·exact hh
  ·rw [List.getElem?_eq_none hh] at h1; cases h1
 refine ⟨hlt, ?_⟩
 rw [← row_set s acc k r h, List.set_eq_take_append_cons_drop, if_pos hlt]
 simp [stc]
theorem set_step (RS : List Row) (k : Nat) (h : k < RS.length) : ((RS.take k).map shortR ++ RS.drop k).set k (shortR RS[k]) = (RS.take (k + 1)).map shortR ++ RS.drop (k + 1) := by
 rw [List.set_append_right _ _ (by simp; omega), List.drop_eq_getElem_cons h, List.take_succ_eq_append_getElem h]
 rw [show k - ((RS.take k).map shortR).length = 0 by simp; omega]
 simp only [List.set_cons_zero, List.map_append, List.map_cons, List.map_nil, List.append_assoc, kA]
theorem get_step (RS : List Row) (k : Nat) (h : k < RS.length) : ((RS.take k).map shortR ++ RS.drop k)[k]? = some RS[k] := by
 rw [List.getElem?_append_right (by simp; omega), List.drop_eq_getElem_cons h]
 simp [show k - min k RS.length = 0 by omega]
def fewIm (x : Im) : Im := ⟨x.page, nilCV, fewC x.b, nilCV, fewC x.a⟩
theorem CW.few {ρ v c} (h : CW ρ v c) : CInW ρ v c.rows c.kids := ⟨h.r, h.k, by have := h.rb; omega, by have := h.kb; omega, h.rc, h.kc⟩
theorem fewC_fit {ρ v c} (h : CW ρ v c) {ρ' v'} (h' : CIn ρ' v' (fewC c).rows (fewC c).kids) : CI ρ' v' (fewC c) := ⟨h', fun r hr => by
  obtain ⟨y, hy, rfl⟩ := List.mem_map.1 hr
  have := h.row y (List.mem_of_mem_take hy)
  exact ⟨this.id, this.val⟩, fun k hk => h.kid k (List.mem_of_mem_take hk)⟩
theorem flat_one {α : Type} (g : α → List Value) (hg : ∀ x, (g x).all (·.oneCell') = true) (l : List α) : ((l.map g).flatten).all (·.oneCell') = true := by
 induction l with
 | nil => rfl
 | cons k r ih => simp only [List.map_cons, List.flatten_cons, List.all_append, ih, Bool.and_true]; exact hg k
theorem take_some {α : Type} (c : Nat) (l : List α) (n m : Nat) (h : l.length = n) (hm : m = min n c) : l.take m = l.take c := by
 by_cases h5 : n ≤ c
 ·rw [show m = n by omega, List.take_of_length_le (by omega), List.take_of_length_le (by omega)]
 ·rw [show m = c by omega]
theorem up_lt {α : Type} {right : α → Bool} {by' : α → Int} {l : List α} (h : upB right by' l l.length = true) : ∀ k (hk : k < l.length) j (hj : j < k), by' (l[j]'(by omega)) < by' l[k] := by
 intro k
 induction k with
 | zero => intro _ j hj; omega
 | succ k ih =>
  intro hk j hj
  have h2 := (up_all h (k + 1) hk).2
  simp only [Nat.add_sub_cancel] at h2
  have h3 : by' (l[k]'(by omega)) < by' l[k + 1] := by
   rcases h2 with h2 | h2
   ·omega
   ·exact h2
  by_cases e : j = k
  ·subst e; exact h3
  ·have := ih (by omega) j (by omega); omega
theorem recOk_up2 {r : Rc} (h : ZP r = true) (k : r.kind = 2) : upB (imOk true) Im.page r.ims r.ims.length = true := by
 unfold ZP askOk at h
 rw [if_pos k, Bool.and_eq_true, Bool.and_eq_true, Bool.and_eq_true, Bool.and_eq_true] at h
 have := h.2.2.1.2
 unfold imsOk at this
 rw [Bool.and_eq_true] at this
 exact this.2
end Go.Proofs.E
namespace Go.Proofs.E
open Go Go.RowKit
set_option linter.unusedVariables false
set_option linter.unusedSimpArgs false
set_option linter.unusedSectionVars false
theorem ims_up {r : Rc} (h : ZP r = true) : r.ims.Pairwise (fun a b => a.page < b.page) := by
 have key : ∀ (right : Im → Bool), upB right Im.page r.ims r.ims.length = true → r.ims.Pairwise (fun a b => a.page < b.page) := fun right hu => by
  rw [List.pairwise_iff_getElem]
  intro i j hi hj hij
  exact up_lt hu j hj i hij
 have f := Xy h
 rcases f.i0 with hi | hk | hk
 ·rw [hi]; exact .nil
 ·exact key _ (recOk_up2 h hk)
 ·refine key (imOk false) ?_
  unfold ZP askOk at h
  rw [if_neg (by omega), if_neg (by omega), if_pos hk, Bool.and_eq_true, Bool.and_eq_true, Bool.and_eq_true] at h
  have := h.2.2.1
  rw [if_neg (show ¬ r.kind = 4 by omega), Bool.and_eq_true] at this
  have := this.2
  unfold imsOk at this
  rw [Bool.and_eq_true] at this
  exact this.2
end Go.Proofs.E
namespace Go.Proofs.E
open Go
set_option linter.unusedVariables false
set_option linter.unusedSimpArgs false
set_option linter.unusedSectionVars false
set_option maxRecDepth 4000
set_option maxHeartbeats 1000000
attribute [local irreducible] Yl TL TC TE Spec ZK R1 Hp.le EnvLe TS TR YS Zp
abbrev PgF := Nat → ZL
theorem seen_hold (held : Nat → ZL) (pv : PV) (k n : Int) : Xn held (holdV held pv k) n = Xn held pv n := by
 unfold holdV
 conv => lhs; unfold Xn
 unfold setV
 split
 ·rename_i e; subst e; rfl
 ·rfl
theorem seen_holds (held : Nat → ZL) : ∀ (l : List Sh) (pv : PV) (n : Int), Xn held (XO held pv l) n = Xn held pv n
 | [], pv, n => rfl
 | s :: r, pv, n => by
  show Xn held (XO held (holdV held pv s.page) r) n = _
  rw [seen_holds held r, seen_hold]
structure Sees (held : Nat → ZL) (pv : PV) (p : PgF) : Prop where
 see : ∀ n : Nat, n < 64 → ((Xn held pv n).1, (Xn held pv n).2.1) = p n
theorem Sees.same {held : Nat → ZL} {pv pv' : PV} {p : PgF} (h : Sees held pv p) (e : ∀ n : Int, Xn held pv' n = Xn held pv n) : Sees held pv' p := ⟨fun n hn => by rw [e]; exact h.see n hn⟩
theorem Sees.hold {held : Nat → ZL} {pv : PV} {p : PgF} (h : Sees held pv p) (k : Int) : Sees held (holdV held pv k) p := h.same (seen_hold held pv k)
theorem Sees.new {held : Nat → ZL} {pv : PV} {p : PgF} (h : Sees held pv p) {lsn : Nat} {k : Int} {c : Yi} (h0 : 0 ≤ k) : Sees held (newV lsn pv k c) (upd p k.toNat (c, lsn)) := by
 refine ⟨fun n hn => ?_⟩
 unfold newV setV upd
 by_cases e : (n : Int) = k
 ·have e2 : n = k.toNat := by omega
  unfold Xn
  dsimp only
  rw [if_pos e, if_pos e2]; rfl
 ·have e2 : ¬ n = k.toNat := by omega
  have := h.see n hn
  unfold Xn at this ⊢
  dsimp only
  rw [if_neg e, if_neg e2]; exact this
def putS (lsn : Nat) : PgF → List Sh → PgF
 | p, [] => p
 | p, s :: r => putS lsn (upd p s.page.toNat (s.c, lsn)) r
theorem Sees.chgs {held : Nat → ZL} {lsn : Nat} : ∀ (l : List Sh) {pv : PV} {p : PgF}, Sees held pv p → (∀ s ∈ l, 0 ≤ s.page) → Sees held (chgsV lsn pv l) (putS lsn p l)
 | [], _, _, h, _ => h
 | s :: r, _, _, h, hl => Sees.chgs r (h.new (hl s (by simp))) (fun x hx => hl x (by simp [hx]))
def Xl (p : PgF) (d : List CkP) (r : Rc) : List Sh := (redoL (fun n => (p n.toNat).2) d r).map WF
def Wq (d : List CkP) (p : PgF) (r : Rc) : PgF := putS r.lsn p (Xl p d r)
theorem redoS_in {p : PgF} {d : List CkP} {r : Rc} {s : Sh} (h : s ∈ Xl p d r) : ∃ x ∈ r.ims, s = WF x ∧ (p x.page.toNat).2 < r.lsn ∧ needsB d r x.page = true := by
 obtain ⟨x, hx, rfl⟩ := List.mem_map.1 h
 obtain ⟨h1, h2⟩ := List.mem_filter.1 hx
 obtain ⟨h3, h4⟩ := List.mem_filter.1 h1
 exact ⟨x, h3, rfl, of_decide_eq_true h2, h4⟩
theorem riseS_of : ∀ {l : List Sh} {last : Int}, l.Pairwise (fun a b => a.page < b.page) → (∀ s ∈ l, last < s.page ∧ 0 ≤ s.page ∧ s.page < 64) → riseS last l = true
 | [], _, _, _ => rfl
 | s :: r, last, h, hl => by
  rw [List.pairwise_cons] at h
  rw [riseS, Bool.and_eq_true, decide_eq_true_eq]
  exact ⟨hl s (by simp), riseS_of h.2 (fun x hx => ⟨h.1 x hx, (hl x (by simp [hx])).2⟩)⟩
theorem redoS_page {p : PgF} {d : List CkP} {r : Rc} (hr : ZP r = true) {s : Sh} (h : s ∈ Xl p d r) : 0 ≤ s.page ∧ s.page < 64 := by
 obtain ⟨x, hx, rfl, _⟩ := redoS_in h
 exact ((Xy hr).im x hx).1
theorem redoS_rise {p : PgF} {d : List CkP} {r : Rc} (hr : ZP r = true) : riseS (-1) (Xl p d r) = true := by
 refine riseS_of ?_ (fun s hs => by have := redoS_page hr hs; omega)
 unfold Xl redoL Wv
 rw [List.pairwise_map]
 exact ((ims_up hr).filter _).filter _
theorem askE_redo {known : Bool} {held : Nat → ZL} {pv : PV} {p : PgF} {d : List CkP} {r : Rc} (hs : Sees held pv p) (hr : ZP r = true) (hl : Xl p d r ≠ []) : askE known held pv r.lsn (Xl p d r) = if known = true then 0 else 2 := by
 unfold askE
 cases known
 ·rw [if_pos (.inl rfl), if_neg (by simp)]
 ·rw [if_neg (by simp [hl]), redoS_rise hr, if_neg (by simp)]
  have h1 : (Xl p d r).all (fun s => ZB s.c) = true := List.all_eq_true.2 (fun s hs => by
   obtain ⟨x, hx, rfl, _⟩ := redoS_in hs
   exact ((Xy hr).im x hx).2.1)
  have h2 : (Xl p d r).any (fun s => decide (r.lsn ≤ (Xn held (XO held pv (Xl p d r)) s.page).2.1)) = false := List.any_eq_false.2 (fun s hm => by
   obtain ⟨h0, h64⟩ := redoS_page hr hm
   obtain ⟨x, hx, rfl, hlt, _⟩ := redoS_in hm
   rw [seen_holds]
   have := congrArg Prod.snd (hs.see (WF x).page.toNat (by omega))
   rw [Int.toNat_of_nonneg h0] at this
   dsimp only at this
   rw [this]
   simp only [decide_eq_true_eq, Nat.not_le]
   exact hlt)
  rw [h1, h2]; simp
theorem Sees.step {known : Bool} {held : Nat → ZL} {pv : PV} {p : PgF} {d : List CkP} {r : Rc} (hs : Sees held pv p) (hr : ZP r = true) (hl : Xl p d r ≠ []) : Sees held (chgV known held pv r.lsn (Xl p d r)) (if known = true then Wq d p r else p) := by
 have hE := askE_redo (known := known) hs hr hl
 cases known
 ·unfold chgV askV
  rw [hE, if_neg (by simp), if_pos (.inl rfl)]; exact hs
 ·rw [if_pos rfl] at hE ⊢
  unfold chgV
  rw [if_pos hE, (askE_zero hE).2.2.2.1]
  exact Sees.chgs _ (hs.same (seen_holds held _ pv)) (fun s hm => (redoS_page hr hm).1)
structure PqI (ρ : Hp) (pb fb lb mb db t : Nat) (pg : Pgs) (es : List MapEntry) (k : DK) (D : DS) (held : Nat → ZL) (p : PgF) : Prop where
 po : PoIn ρ pb fb lb mb
 fi : FIn ρ fb db 902
 mp : MpIn ρ es pg
 dk : DOk k D
 fo : FO D 902 t held
 lv : Lv1 D
 se : Sees held (vw pg) p
theorem PqI.mono {ρ ρ' : Hp} {pb fb lb mb db t : Nat} {pg : Pgs} {es : List MapEntry} {k : DK} {D : DS} {held : Nat → ZL} {p : PgF} (h : PqI ρ pb fb lb mb db t pg es k D held p) (hl : ρ.le ρ') : PqI ρ' pb fb lb mb db t pg es k D held p :=
 ⟨Hp.at' hl h.po, h.fi.mono hl, h.mp.mono hl, h.dk, h.fo, h.lv, h.se⟩
theorem page24 (ρ : Hp) (pb fb lb mb db t num : Nat) (pg : Pgs) (es : List MapEntry) (ck : Nat) (k : DK) (D : DS) (held : Nat → ZL) (p : PgF) (h : PqI ρ pb fb lb mb db t pg es k D held p) (hn : num < 64) :
  Spec Tryz.prog 59 [.pointer (some ⟨pb, 0, none⟩), .int .i64 num] ρ (ZZ mb es ck :: Zk db k D)
   (fun v ρ' L' => ρ.le ρ' ∧ ∃ w es' ck' pg' D', v = .tuple ⟨[.agg ⟨Xo (p num).1.kind w⟩, .int .u64 ((p num).2 : Nat), .int .i64 0]⟩ ∧ CIn ρ' w (p num).1.rows (p num).1.kids ∧ PqI ρ' pb fb lb mb db t pg' es' k D' held p ∧ Lv D D' ∧ L' = ZZ mb es' ck' :: Zk db k D') := by
 refine (page_lv ρ pb fb lb mb db 902 num t h.po h.fi (by omega) hn k D h.dk pg es ck h.mp held h.fo h.lv).mono ?_
 rintro v ρ' L' _ ⟨hl, w, es', ck', pg', D', h1, h2, h3, h4, h5, h6, h7, h8⟩
 have e := h.se.see num hn
 have e1 := congrArg Prod.fst e
 have e2 := congrArg Prod.snd e
 dsimp only at e1 e2
 rw [e1, e2] at h1
 rw [e1] at h2
 exact ⟨hl, w, es', ck', pg', D', h1, h2, ⟨Hp.at' hl h.po, h.fi.mono hl, h3, h5, h7, h6.next, by rw [h4]; exact h.se.hold num⟩, h6, h8⟩
def StJ (pb fb lb mb db t xb : Nat) (k : DK) (D0 : DS) (held : Nat → ZL) (p : PgF) (ρ : Hp) (L : SH) : Prop :=
 ∃ es ck pg D, PqI ρ pb fb lb mb db t pg es k D held p ∧ Lv D0 D ∧ L = bpC xb pb :: ZZ mb es ck :: Zk db k D
theorem step1_spec (ρ : Hp) (pb fb lb mb db t xb : Nat) (k : DK) (D0 : DS) (held : Nat → ZL) (p : PgF) (L : SH) (h : StJ pb fb lb mb db t xb k D0 held p ρ L) (page : Int) (h0 : 0 ≤ page) (h1 : page < 64) :
  Spec Tryz.prog 122 [.int .i64 page, .pointer (some ⟨xb, 0, none⟩)] ρ L (fun z ρ' L' => z = .tuple ⟨[.int .u64 ((p page.toNat).2 : Nat), .int .i64 0]⟩ ∧ ρ.le ρ' ∧ StJ pb fb lb mb db t xb k D0 held p ρ' L') := by
 obtain ⟨es, ck, pg, D, hq, hL, rfl⟩ := h
 obtain ⟨n, rfl⟩ : ∃ n : Nat, page = (n : Int) := ⟨page.toNat, by omega⟩
 have hP := page24 ρ pb fb lb mb db t n pg es ck k D held p hq (by omega)
 simp only [Int.toNat_natCast]
 refine Za Tryz.func122 rfl rfl rfl fun u R => ?_
 simp only [Zg, kA]
 repeat' (first | (refine Zb (.func 59) ?_; refine qC rfl rfl hP ?_; rintro v1 ρ1 L1 hle1 ⟨hl1, w, es', ck', pg', D', rfl, hC, hq', hL', rfl⟩; try simp only [kA]) | refine zV ?_ | intro _)
 exact qE (L' := bpC xb pb :: ZZ mb es' ck' :: Zk db k D') ⟨rfl, hl1, es', ck', pg', D', hq', hL.trans hL', rfl⟩
def okT (known : Bool) (d : List CkP) (p : PgF) (r : Rc) : Bool := decide (whyE d r = 0) && (known || (Xl p d r).isEmpty)
def stpE (known : Bool) (d : List CkP) (p : PgF) (r : Rc) : Int := if whyE d r ≠ 0 then whyE d r else if okT known d p r = true then 0 else 2
def stpN (known : Bool) (d : List CkP) (p : PgF) (r : Rc) : Nat := if okT known d p r = true then (Xl p d r).length else 0
def stpP (known : Bool) (d : List CkP) (p : PgF) (r : Rc) : PgF := if okT known d p r = true then Wq d p r else p
theorem why_rec {d : List CkP} {r : Rc} (h : whyE d r = 0) : ZP r = true ∧ Xh d = true := by
 unfold whyE at h
 cases ht : Xh d
 ·rw [ht] at h; simp at h
 ·rw [ht] at h
  cases hr : ZP r
  ·rw [hr] at h; simp at h
  ·exact ⟨rfl, rfl⟩
theorem redoS_shs {ρ : Hp} {s2 : SV} {p : PgF} {d : List CkP} {v : RV} {r : Rc} (h : RcIn ρ v r) (h2 : AS ρ 4 shV s2 (Xl p d r)) : ShsIn ρ s2.a s2.n s2.c (Xl p d r) := ⟨h2.at', h2.big, fun s hs => by
 obtain ⟨x, hx, rfl, _⟩ := redoS_in hs
 exact (h.im x hx).a.cin⟩
theorem step24_spec (ρ : Hp) (pb fb lb mb rb db t : Nat) (pg : Pgs) (es : List MapEntry) (ck : Nat) (k : DK) (D : DS) (held : Nat → ZL) (p : PgF) (h : PqI ρ pb fb lb mb db t pg es k D held p) (S : LgS) (v : Value) (sp : List Value) (hS : LgIn ρ S v sp)
  (s : SV) (d : List CkP) (hd : AS ρ 2 YN s d) (rv : RV) (r : Rc) (hr : RcIn ρ rv r) :
  Spec Tryz.prog 41 [.pointer (some ⟨pb, 0, none⟩), .slice s.a s.n s.c, .agg ⟨Xw rv r⟩] ρ (ZR lb rb S v :: Ya S v sp :: ZZ mb es ck :: Zk db k D)
   (fun z ρ' L' => z = .tuple ⟨[.int .i64 (stpN (recF S r.lsn).isSome d p r : Nat), .int .i64 (stpE (recF S r.lsn).isSome d p r)]⟩ ∧ ρ.le ρ' ∧ ∃ es' ck' pg' D', PqI ρ' pb fb lb mb db t pg' es' k D' held (stpP (recF S r.lsn).isSome d p r) ∧ Lv D D' ∧ L' = ZR lb rb S v :: Ya S v sp :: ZZ mb es' ck' :: Zk db k D') := by
 have hwy := why_spec ρ s d hd rv r hr
 generalize hk : (recF S r.lsn).isSome = known
 by_cases hw : whyE d r = 0
 case' neg =>
  have hok : okT known d p r = false := by unfold okT; rw [decide_eq_false hw]; rfl
  have e1 : stpE known d p r = whyE d r := by unfold stpE; rw [if_pos hw]
  have e2 : stpN known d p r = 0 := by unfold stpN; rw [hok]; rfl
  have e3 : stpP known d p r = p := by unfold stpP; rw [hok]; rfl
  rw [e1, e2, e3]
  have hb : (whyE d r != 0) = true := by simpa using hw
  generalize whyE d r = E at *
  refine Za Tryz.func41 rfl rfl rfl fun u R => ?_
  simp only [Zg, kA]
  repeat' (first | (refine Zb (.func 120) ?_; refine qR rfl rfl (hwy) ?_; try simp only [kA]) | refine zV ?_ | intro _)
  exact qE (L' := ZR lb rb S v :: Ya S v sp :: ZZ mb es ck :: Zk db k D) ⟨rfl, Hp.le_refl _, es, ck, pg, D, h, h.lv, rfl⟩
 obtain ⟨hrok, htok⟩ := why_rec hw
 rw [hw] at hwy
 have hsh := fun xb => sheetsJ_spec ρ s d hd rv r hr 122 [.pointer (some ⟨xb, 0, none⟩)] (bpC xb pb :: ZZ mb es ck :: Zk db k D) (fun n => (p n.toNat).2) (StJ pb fb lb mb db t xb k D held p) ⟨es, ck, pg, D, h, h.lv, rfl⟩
  (fun {ρ1 ρ2 L} hl ⟨es', ck', pg', D', hq, hL, e⟩ => ⟨es', ck', pg', D', hq.mono hl, hL, e⟩)
  (fun ρ2 X2 _ hJ x hx => step1_spec ρ2 pb fb lb mb db t xb k D held p X2 hJ x.page ((Xy hrok).im x hx).1.1 ((Xy hrok).im x hx).1.2)
 have hRS : (redoL (fun n => (p n.toNat).2) d r).map WF = Xl p d r := rfl
 rw [hRS] at hsh
 refine Za Tryz.func41 rfl rfl rfl fun u R => ?_
 simp only [Zg, kA]
 by_cases hl : Xl p d r = []
 ·have hok : okT known d p r = true := by unfold okT; rw [decide_eq_true hw, hl]; simp
  have e1 : stpE known d p r = 0 := by unfold stpE; rw [if_neg (by simp [hw]), if_pos hok]
  have e2 : stpN known d p r = 0 := by unfold stpN; rw [if_pos hok, hl]; rfl
  have e3 : stpP known d p r = p := by unfold stpP Wq; rw [if_pos hok, hl]; rfl
  rw [e1, e2, e3]
  repeat' (first | (refine Zb (.func 120) ?_; refine qR rfl rfl (hwy) ?_; try simp only [kA]) | (refine Zb (.func 121) ?_; refine qC rfl rfl (hsh _) ?_; rintro v1 ρ1 L1 hle1 ⟨hl1, s2, rfl, hs2, es', ck', pg', D', hq', hL', rfl⟩; have hn0 : ((s2.n : Nat) : Int) = 0 := (by have e := hs2.at'.len; rw [hl, List.length_nil] at e; omega); try simp only [kA]) | refine zV ?_ | intro _)
  exact qE (L' := ZR lb rb S v :: Ya S v sp :: ZZ mb es' ck' :: Zk db k D') ⟨rfl, hl1, es', ck', pg', D', hq', hL', rfl⟩
 ·have hE := fun {pv : PV} (hs : Sees held pv p) => askE_redo (known := known) hs hrok hl
  have hSt := fun {pv : PV} (hs : Sees held pv p) => hs.step (known := known) hrok hl
  have hln : 0 < (Xl p d r).length := List.length_pos_iff.2 hl
  have hch := fun ρ1 pg1 es1 ck1 D1 s2 (h1 : PqI ρ1 pb fb lb mb db t pg1 es1 k D1 held p) (hl1 : ρ.le ρ1) (hs2 : AS ρ1 4 shV s2 (Xl p d r)) => change17_spec ρ1 pb fb lb mb rb db 902 t h1.po h1.fi (by omega) S v sp (hS.mono hl1) k D1 h1.dk pg1 es1 ck1 h1.mp held h1.fo h1.lv r.lsn s2.a s2.n s2.c (Xl p d r) (redoS_shs (hr.mono hl1) hs2)
  rw [hk] at hch
  cases hkn : known
  ·subst hkn
   have hok : okT false d p r = false := by unfold okT; rw [decide_eq_true hw]; simpa using hl
   have e1 : stpE false d p r = 2 := by unfold stpE; rw [if_neg (by simp [hw]), hok]; rfl
   have e2 : stpN false d p r = 0 := by unfold stpN; rw [hok]; rfl
   have e3 : stpP false d p r = p := by unfold stpP; rw [hok]; rfl
   rw [e1, e2, e3]
   repeat' (first | (refine Zb (.func 120) ?_; refine qR rfl rfl (hwy) ?_; try simp only [kA]) | (refine Zb (.func 121) ?_; refine qC rfl rfl (hsh _) ?_; rintro v1 ρ1 L1 hle1 ⟨hl1, s2, rfl, hs2, es', ck', pg', D', hq', hL', rfl⟩; have hn0 : ¬ ((s2.n : Nat) : Int) = 0 := (by have e := hs2.at'.len; omega); have hc := hch _ _ _ ck' _ s2 hq' hl1 hs2; rw [hE hq'.se] at hc; try simp only [kA]) | (refine Zb (.func 123) ?_; refine qC rfl rfl hc ?_; rintro v2 ρ2 L2 hle2 ⟨rfl, hl2, es2, ck2, pg2, D2, hm2, hv2, hk2, hL2, hF2, rfl⟩; try simp only [kA]) | refine zV ?_ | intro _)
   have hse := hSt hq'.se
   rw [← hv2] at hse
   exact qE (L' := ZR lb rb S v :: Ya S v sp :: ZZ mb es2 ck2 :: Zk db k D2) ⟨rfl, Hp.le_trans hl1 hl2, es2, ck2, pg2, D2, ⟨Hp.at' hl2 hq'.po, hq'.fi.mono hl2, hm2, hk2, hF2, hL2.next, hse⟩, hL'.trans hL2, rfl⟩
  ·subst hkn
   have hok : okT true d p r = true := by unfold okT; rw [decide_eq_true hw]; rfl
   have e1 : stpE true d p r = 0 := by unfold stpE; rw [if_neg (by simp [hw]), if_pos hok]
   have e2 : stpN true d p r = (Xl p d r).length := by unfold stpN; rw [if_pos hok]
   have e3 : stpP true d p r = Wq d p r := by unfold stpP; rw [if_pos hok]
   rw [e1, e2, e3]
   repeat' (first | (refine Zb (.func 120) ?_; refine qR rfl rfl (hwy) ?_; try simp only [kA]) | (refine Zb (.func 121) ?_; refine qC rfl rfl (hsh _) ?_; rintro v1 ρ1 L1 hle1 ⟨hl1, s2, rfl, hs2, es', ck', pg', D', hq', hL', rfl⟩; have hn0 : ¬ ((s2.n : Nat) : Int) = 0 := (by have e := hs2.at'.len; omega); have hn1 := hs2.at'.len; have hc := hch _ _ _ ck' _ s2 hq' hl1 hs2; rw [hE hq'.se] at hc; try simp only [kA]) | (refine Zb (.func 123) ?_; refine qC rfl rfl hc ?_; rintro v2 ρ2 L2 hle2 ⟨rfl, hl2, es2, ck2, pg2, D2, hm2, hv2, hk2, hL2, hF2, rfl⟩; try simp only [kA, if_true]) | refine zV ?_ | intro _)
   have hse := hSt hq'.se
   rw [← hv2, if_pos rfl] at hse
   rw [hn1]
   exact qE (L' := ZR lb rb S v :: Ya S v sp :: ZZ mb es2 ck2 :: Zk db k D2) ⟨rfl, Hp.le_trans hl1 hl2, es2, ck2, pg2, D2, ⟨Hp.at' hl2 hq'.po, hq'.fi.mono hl2, hm2, hk2, hF2, hL2.next, hse⟩, hL'.trans hL2, rfl⟩
def allP (d : List CkP) (p : PgF) (l : List RR) : PgF := l.foldl (fun p x => Wq d p x.2) p
def allN (d : List CkP) : PgF → List RR → Nat
 | _, [] => 0
 | p, x :: l => (Xl p d x.2).length + allN d (Wq d p x.2) l
theorem allP_snoc (d : List CkP) (p : PgF) (l : List RR) (x : RR) : allP d p (l ++ [x]) = Wq d (allP d p l) x.2 := by unfold allP; rw [List.foldl_append]; rfl
theorem allN_snoc (d : List CkP) : ∀ (p : PgF) (l : List RR) (x : RR), allN d p (l ++ [x]) = allN d p l + (Xl (allP d p l) d x.2).length
 | p, [], x => by simp [allN, allP]
 | p, y :: l, x => by
  show _ + allN d (Wq d p y.2) (l ++ [x]) = _ + allN d (Wq d p y.2) l + _
  rw [allN_snoc d _ l x, Nat.add_assoc]; rfl
theorem redoS_len (p : PgF) (d : List CkP) {r : Rc} (h : ZP r = true) : (Xl p d r).length ≤ 16 := by
 unfold Xl redoL Wv
 rw [List.length_map]
 exact Nat.le_trans (List.length_filter_le _ _) (Nat.le_trans (List.length_filter_le _ _) (Xy h).il)
theorem stp_yes {d : List CkP} {p : PgF} {r : Rc} (ht : Xh d = true) (hr : ZP r = true) : stpE true d p r = 0 ∧ stpN true d p r = (Xl p d r).length ∧ stpP true d p r = Wq d p r := by
 have hw : whyE d r = 0 := by unfold whyE; rw [ht, hr]; rfl
 have hok : okT true d p r = true := by unfold okT; rw [decide_eq_true hw]; rfl
 exact ⟨by unfold stpE; rw [if_neg (by simp [hw]), if_pos hok], by unfold stpN; rw [if_pos hok], by unfold stpP; rw [if_pos hok]⟩
structure RcsIn (ρ : Hp) (S : LgS) (a : Option Addr) (n c : Nat) (l : List RR) : Prop where
 at' : AIn ρ 10 rrV a n l
 cap : n ≤ c
 few : n ≤ 1000
 rin : ∀ x ∈ l, RcIn ρ x.1 x.2
 ok : ∀ x ∈ l, ZP x.2 = true
 known : ∀ x ∈ l, (recF S x.2.lsn).isSome = true
theorem RcsIn.mono {ρ ρ' S a n c l} (h : RcsIn ρ S a n c l) (hl : ρ.le ρ') : RcsIn ρ' S a n c l := ⟨h.at'.mono hl, h.cap, h.few, fun x hx => (h.rin x hx).mono hl, h.ok, h.known⟩
theorem all24_spec (ρ : Hp) (pb fb lb mb rb db t : Nat) (pg : Pgs) (es : List MapEntry) (ck : Nat) (k : DK) (D : DS) (held : Nat → ZL) (p : PgF) (h : PqI ρ pb fb lb mb db t pg es k D held p) (S : LgS) (v : Value) (sp : List Value) (hS : LgIn ρ S v sp)
  (s : SV) (d : List CkP) (hd : AS ρ 2 YN s d) (ht : Xh d = true) (a : Option Addr) (n c : Nat) (l : List RR) (hl : RcsIn ρ S a n c l) :
  Spec Tryz.prog 57 [.pointer (some ⟨pb, 0, none⟩), .slice s.a s.n s.c, .slice a n c] ρ (ZR lb rb S v :: Ya S v sp :: ZZ mb es ck :: Zk db k D)
   (fun z ρ' L' => z = .tuple ⟨[.int .i64 (allN d p l : Nat), .int .i64 0]⟩ ∧ ρ.le ρ' ∧ ∃ es' ck' pg' D', PqI ρ' pb fb lb mb db t pg' es' k D' held (allP d p l) ∧ Lv D D' ∧ L' = ZR lb rb S v :: Ya S v sp :: ZZ mb es' ck' :: Zk db k D') := by
 have hln := hl.at'.len
 have hfw := hl.few
 refine Za Tryz.func57 rfl rfl rfl fun u R => ?_
 simp only [Zg, kA]
 repeat' (first | refine zV ?_ | intro _)
 refine Zl [(0, _), (1, _), (15, _), (16, _)] (fun (ζ : (Nat) × (Nat) × (Hp) × (List MapEntry) × (Nat) × (Pgs) × (DS)) => [(17, .int .i64 ζ.1), (8, .int .i64 ζ.2.1), (6, .int .i64 0), (7, .int .i64 0)]) (fun (ζ : (Nat) × (Nat) × (Hp) × (List MapEntry) × (Nat) × (Pgs) × (DS)) => ζ.2.2.1) (fun (ζ : (Nat) × (Nat) × (Hp) × (List MapEntry) × (Nat) × (Pgs) × (DS)) => ZR lb rb S v :: Ya S v sp :: ZZ mb ζ.2.2.2.1 ζ.2.2.2.2.1 :: Zk db k ζ.2.2.2.2.2.2) (fun (ζ : (Nat) × (Nat) × (Hp) × (List MapEntry) × (Nat) × (Pgs) × (DS)) => ζ.1 ≤ n ∧ ρ.le ζ.2.2.1 ∧ PqI ζ.2.2.1 pb fb lb mb db t ζ.2.2.2.2.2.1 ζ.2.2.2.1 k ζ.2.2.2.2.2.2 held (allP d p (l.take ζ.1)) ∧ Lv D ζ.2.2.2.2.2.2 ∧ ζ.2.1 = allN d p (l.take ζ.1) ∧ ζ.2.1 ≤ 16 * ζ.1) (fun (ζ : (Nat) × (Nat) × (Hp) × (List MapEntry) × (Nat) × (Pgs) × (DS)) => n - ζ.1) ((0, 0, ρ, es, ck, pg, D)) (⟨Nat.zero_le _, Hp.le_refl _, h, h.lv, rfl, Nat.zero_le _⟩) Zc Zc rfl tk ?_
 rintro ⟨i, m, ρ1, es1, ck1, pg1, D1⟩ hI
 try simp only [kA, List.append_assoc] at hI ⊢
 try dsimp only at hI ⊢
 obtain ⟨hi, hle1, hq1, hL1, hm, hmb⟩ := hI
 by_cases hlt : i < n
 ·have hil : i < l.length := by omega
  obtain ⟨b, off, C, T, fr, e1, hb, hfit, hc⟩ := (hl.at'.mono hle1).get hil
  have hx := (hl.rin _ (List.getElem_mem hil)).mono hle1
  have hok := hl.ok _ (List.getElem_mem hil)
  have hkn := hl.known _ (List.getElem_mem hil)
  have htk := List.take_succ_eq_append_getElem hil
  rw [e1]
  generalize l[i] = x at *
  obtain ⟨xv, xr⟩ := x
  dsimp only at hx hok hkn hc
  have hN := allN_snoc d p (l.take i) (xv, xr)
  have hP := allP_snoc d p (l.take i) (xv, xr)
  rw [← htk] at hN hP
  dsimp only at hN hP
  have hlen := redoS_len (allP d p (l.take i)) d hok
  have hst := step24_spec ρ1 pb fb lb mb rb db t pg1 es1 ck1 k D1 held (allP d p (l.take i)) hq1 S v sp (hS.mono hle1) s d (hd.mono hle1) xv xr hx
  rw [hkn] at hst
  obtain ⟨g1, g2, g3⟩ := stp_yes (p := allP d p (l.take i)) ht hok
  rw [g1, g2, g3] at hst
  generalize (Xl (allP d p (l.take i)) d xr).length = q at *
  repeat' (first | (refine Zb (.func 41) ?_; refine qC rfl rfl hst ?_; rintro v2 ρ2 L2 hle2 ⟨rfl, hl2, es2, ck2, pg2, D2, hq2, hL2, rfl⟩; try simp only [kA]) | refine zV ?_ | intro _)
  rw [← e1]
  rw [← hP] at hq2
  refine Zf (i + 1, m + q, ρ2, es2, ck2, pg2, D2) (⟨hlt, Hp.le_trans hle1 hl2, hq2, hL1.trans hL2, by dsimp only; omega, by dsimp only; omega⟩) Zc Zc rfl tk inferInstance (by first | omega | (dsimp only; omega))
 ·have hin : i = l.length := by omega
  rw [hin, List.take_length] at hm hq1
  subst hm
  repeat' (first | refine zV ?_ | intro _)
  exact qE (L' := ZR lb rb S v :: Ya S v sp :: ZZ mb es1 ck1 :: Zk db k D1) ⟨rfl, hle1, es1, ck1, pg1, D1, hq1, hL1, rfl⟩
structure PgL (ρ : Hp) (a : Option Addr) (c : Nat) (l : List PgD) (p : PgF) : Prop where
 at' : AIn ρ 4 pdV a 64 l
 cap : 64 ≤ c
 cin : ∀ x ∈ l, CIn ρ x.w x.c.rows x.c.kids
 eq : ∀ k (h : k < l.length), ((l[k]).c, (l[k]).lsn) = p k
theorem PgL.mono {ρ ρ' a c l p} (h : PgL ρ a c l p) (hl : ρ.le ρ') : PgL ρ' a c l p := ⟨h.at'.mono hl, h.cap, fun x hx => (h.cin x hx).mono hl, h.eq⟩
theorem pd_split (l : List PgD) (n : Nat) (h : n < l.length) (y : PgD) : (l.map pdV).flatten = ((l.take n).map pdV).flatten ++ (pdV l[n] ++ ((l.drop (n + 1)).map pdV).flatten) ∧ ((l.set n y).map pdV).flatten = ((l.take n).map pdV).flatten ++ (pdV y ++ ((l.drop (n + 1)).map pdV).flatten) := by
 constructor
 ·conv => lhs; rw [← List.take_append_drop n l, List.drop_eq_getElem_cons h]
  simp only [List.map_append, List.map_cons, List.flatten_append, List.flatten_cons]
 ·rw [List.set_eq_take_append_cons_drop, if_pos h]
  simp only [List.map_append, List.map_cons, List.flatten_append, List.flatten_cons]
end Go.Proofs.E
namespace Go.Proofs.E
open Go
set_option linter.unusedVariables false
set_option linter.unusedSimpArgs false
set_option linter.unusedSectionVars false
set_option maxRecDepth 4000
set_option maxHeartbeats 1000000
attribute [local irreducible] Yl TL TC TE Spec ZK R1 Hp.le EnvLe TS TR YS Zp TP QP
def fewR24 (r : Rc) : Rc := { r with ims := (r.ims.take 17).map fewIm, steps := r.steps.take 3, txns := r.txns.take 9, dirty := r.dirty.take 65 }
theorem content24_spec (ρ : Hp) (w : CV) (c : Yi) (h : CInW ρ w c.rows c.kids) :
  Spec Tryz.prog 117 [.agg ⟨Xo c.kind w⟩] ρ [] (fun v ρ' L' => ρ.le ρ' ∧ ∃ w', v = .agg ⟨Xo c.kind w'⟩ ∧ CIn ρ' w' (fewC c).rows (fewC c).kids ∧ L' = []) := by
 obtain ⟨kind, rows, kids⟩ := c
 obtain ⟨ra, rn, rc, ka, kn, kc⟩ := w
 obtain ⟨hr, hk, hrb, hkb, hrc, hkc⟩ := h
 dsimp only at hr hk hrb hkb hrc hkc
 have hrl := hr.len
 have hkl := hk.len
 dsimp only [fewC, Xo]
 obtain ⟨m, hm⟩ : ∃ m, m = min kn 5 := ⟨_, rfl⟩
 obtain ⟨q, hq⟩ : ∃ q, q = min rn 5 := ⟨_, rfl⟩
 have hmt : (min (kn : Int) 5).toNat = m := by omega
 have hqt : (min (rn : Int) 5).toNat = q := by omega
 have hk5 := hk.take (hi' := m) (by omega)
 have hr5 := hr.take (hi' := q) (by omega)
 rw [take_five _ _ _ hkl hm] at hk5
 rw [take_five _ _ _ hrl hq] at hr5
 have hm5 : m ≤ 5 := by omega
 have hq5 : q ≤ 5 := by omega
 generalize kids.take 5 = KS at *
 generalize rows.take 5 = RS at *
 refine Za Tryz.func117 rfl rfl rfl fun u R => ?_
 simp only [Zg, kA]
 repeat' (first | refine zV ?_ | intro _)
 rename_i b1 b2
 refine tc_cut_k R [] (fun (ζ : (Option Addr) × (Nat) × (List Value) × (Option Addr) × (Nat) × (List Value)) => [(1, .pointer (some ⟨b1, 0, none⟩)), (2, .pointer (some ⟨b2, 0, none⟩))]) (fun (ζ : (Option Addr) × (Nat) × (List Value) × (Option Addr) × (Nat) × (List Value)) => ρ) (fun (ζ : (Option Addr) × (Nat) × (List Value) × (Option Addr) × (Nat) × (List Value)) => [ZG (.slice ζ.1 q ζ.2.1) (RS.map Yu).flatten ζ.2.2.1 171, ZG (.slice ζ.2.2.2.1 m ζ.2.2.2.2.1) (KS.map Xj).flatten ζ.2.2.2.2.2 238, [(b1, .cells ⟨[.int .i64 kind, .slice ζ.1 q ζ.2.1, .slice ζ.2.2.2.1 m ζ.2.2.2.2.1]⟩ 112 (0, 0))], [(b2, .cells ⟨[.int .i64 0, .slice none 0 0, .slice none 0 0]⟩ 112 (0, 0))]]) (fun (ζ : (Option Addr) × (Nat) × (List Value) × (Option Addr) × (Nat) × (List Value)) => OwnS (.slice ζ.1 q ζ.2.1) q (RS.map Yu).flatten ζ.2.2.1 4 ∧ OwnS (.slice ζ.2.2.2.1 m ζ.2.2.2.2.1) m (KS.map Xj).flatten ζ.2.2.2.2.2 3) Zc ?_ ?_
 ·refine tc_phase 19 (Zp _ _ ([[(b1, .cells ⟨[.int .i64 kind, .slice ra rn rc, .slice ka kn kc]⟩ 112 (0, 0))]])) (by decide +kernel) (Wp (hT := tk) (Hp.le_refl _)) ?_
  simp only [List.take_succ_cons, List.take_zero]
  all_goals (refine rFa 1 ?_; refine rLd 2 ?_; refine rFa 3 ?_; refine rLd 4 ?_; refine rBi 5 ?_; refine rBi 6 ?_; refine rSl 7 ?_; refine rFa 10 ?_; refine rLd 11 ?_; refine rFa 12 ?_; refine rLd 13 ?_; refine rBi 14 ?_; refine rBi 15 ?_; refine rSl 16 ?_)
  all_goals (refine rStep2 (i := 0) (j := 9) ?_ ?_ <;> ((try refine Zn ?_); (first | (refine Yj ?_; try intro _)) <;> ((try simp only [kA]); refine Zi ?_; refine rNext ?_)))
  all_goals (first | (refine rStep2 (i := 8) (j := 9) ?_ ?_ <;> ((try refine Zn ?_); (first | (simp only [hqt]; refine Yv (n := 0) (xs := []) (sp := []) (ys := (RS.map Yu).flatten) (m := q) (sz := 4) rfl rfl (OwnS.zero _ 4) (hR := by first | exact Zz | exact ZE Zz | exact ZE (ZE Zz)) (AIn.srcV hr5) (by rw [Xe Yu 4 _ (fun x _ => rfl), hr5.len]) (flatR_one _) (by decide) rfl (by omega) (by omega) rfl (fun v1 sp1 hown1 => ?_); simp only [Nat.zero_add, List.nil_append] at hown1 ⊢; obtain ⟨a1, c1, rfl, hlen1⟩ := hown1.len) | (simp only [hmt]; refine Yv (n := 0) (xs := []) (sp := []) (ys := (KS.map Xj).flatten) (m := m) (sz := 3) rfl rfl (OwnS.zero _ 3) (hR := by first | exact Zz | exact ZE Zz | exact ZE (ZE Zz)) (AIn.srcV hk5) (by rw [Xe Xj 3 _ (fun x _ => rfl), hk5.len]) (flatK_one _) (by decide) rfl (by omega) (by omega) rfl (fun v2 sp2 hown2 => ?_); simp only [Nat.zero_add, List.nil_append] at hown2 ⊢; obtain ⟨a2, c2, rfl, hlen2⟩ := hown2.len) | (refine Yj ?_; try intro _)) <;> ((try simp only [kA]); refine Zi ?_; refine rNext ?_))) | (refine rStep (i := 0) ?_; ((try refine Zn ?_); (first | (refine Yj ?_; try intro _)) <;> ((try simp only [kA]); refine Zi ?_; refine rNext ?_))))
  all_goals (first | refine rFa 18 ?_ | (refine rStep (i := 8) ?_; ((try refine Zn ?_); (first | (simp only [hqt]; refine Yv (n := 0) (xs := []) (sp := []) (ys := (RS.map Yu).flatten) (m := q) (sz := 4) rfl rfl (OwnS.zero _ 4) (hR := by first | exact Zz | exact ZE Zz | exact ZE (ZE Zz)) (AIn.srcV hr5) (by rw [Xe Yu 4 _ (fun x _ => rfl), hr5.len]) (flatR_one _) (by decide) rfl (by omega) (by omega) rfl (fun v1 sp1 hown1 => ?_); simp only [Nat.zero_add, List.nil_append] at hown1 ⊢; obtain ⟨a1, c1, rfl, hlen1⟩ := hown1.len) | (simp only [hmt]; refine Yv (n := 0) (xs := []) (sp := []) (ys := (KS.map Xj).flatten) (m := m) (sz := 3) rfl rfl (OwnS.zero _ 3) (hR := by first | exact Zz | exact ZE Zz | exact ZE (ZE Zz)) (AIn.srcV hk5) (by rw [Xe Xj 3 _ (fun x _ => rfl), hk5.len]) (flatK_one _) (by decide) rfl (by omega) (by omega) rfl (fun v2 sp2 hown2 => ?_); simp only [Nat.zero_add, List.nil_append] at hown2 ⊢; obtain ⟨a2, c2, rfl, hlen2⟩ := hown2.len) | (refine Yj ?_; try intro _)) <;> ((try simp only [kA]); refine Zi ?_; refine rNext ?_))))
  all_goals (first | refine rFa 18 ?_ | (refine rStep (i := 9) ?_; ((try refine Zn ?_); (first | (refine Yj ?_; try intro _)) <;> ((try simp only [kA]); refine Zi ?_; refine rNext ?_))))
  all_goals (refine rStep (i := 17) ?_; ((try refine Zn ?_); (first | (simp only [hqt]; refine Yv (n := 0) (xs := []) (sp := []) (ys := (RS.map Yu).flatten) (m := q) (sz := 4) rfl rfl (OwnS.zero _ 4) (hR := by first | exact Zz | exact ZE Zz | exact ZE (ZE Zz)) (AIn.srcV hr5) (by rw [Xe Yu 4 _ (fun x _ => rfl), hr5.len]) (flatR_one _) (by decide) rfl (by omega) (by omega) rfl (fun v1 sp1 hown1 => ?_); simp only [Nat.zero_add, List.nil_append] at hown1 ⊢; obtain ⟨a1, c1, rfl, hlen1⟩ := hown1.len) | (simp only [hmt]; refine Yv (n := 0) (xs := []) (sp := []) (ys := (KS.map Xj).flatten) (m := m) (sz := 3) rfl rfl (OwnS.zero _ 3) (hR := by first | exact Zz | exact ZE Zz | exact ZE (ZE Zz)) (AIn.srcV hk5) (by rw [Xe Xj 3 _ (fun x _ => rfl), hk5.len]) (flatK_one _) (by decide) rfl (by omega) (by omega) rfl (fun v2 sp2 hown2 => ?_); simp only [Nat.zero_add, List.nil_append] at hown2 ⊢; obtain ⟨a2, c2, rfl, hlen2⟩ := hown2.len) | (refine Yj ?_; try intro _)) <;> ((try simp only [kA]); refine Zi ?_; refine rNext ?_)))
  all_goals refine rDone ?_
  all_goals refine te_phase (fuel := 3) (m := [true, true, true, true, true, true, true, true, true, true, true, true, true, true, true, true, true, true, true, false, false, false]) (Zp _ _ ([])) rfl rfl (Wp (hT := tk) (Hp.le_refl _)) ?_
  all_goals (refine rStep (i := 19) ?_; ((try refine Zn ?_); (first | (refine Yj ?_; try intro _)) <;> ((try simp only [kA]); refine Zi ?_; refine rNext ?_)))
  all_goals refine rFa 20 ?_
  all_goals (refine rStep (i := 21) ?_; ((try refine Zn ?_); (first | (refine Yj ?_; try intro _)) <;> ((try simp only [kA]); refine Zi ?_; refine rNext ?_)))
  all_goals refine rDone ?_
  all_goals refine te_cut_g ((a1, c1, sp1, a2, c2, sp2)) (⟨hown1, hown2⟩) Zc Zc rfl tk inferInstance
 ·rintro ⟨a1, c1, sp1, a2, c2, sp2⟩ ⟨hown1, hown2⟩
  simp only [kA] at hown1 hown2 ⊢
  have hRl := hr5.len
  repeat' (first | refine zV ?_ | intro _)
  refine Zl [(1, _), (2, _), (26, _)] (fun (ζ : (Nat) × (List Row)) => [(27, .int .i64 ζ.1)]) (fun (ζ : (Nat) × (List Row)) => ρ) (fun (ζ : (Nat) × (List Row)) => [ZG (.slice a1 q c1) (ζ.2.map Yu).flatten sp1 171, [(b1, .cells ⟨[.int .i64 kind, .slice a1 q c1, .slice a2 m c2]⟩ 112 (0, 0))]]) (fun (ζ : (Nat) × (List Row)) => ζ.1 ≤ q ∧ ζ.2 = (RS.take ζ.1).map shortR ++ RS.drop ζ.1) (fun (ζ : (Nat) × (List Row)) => q - ζ.1) ((0, RS)) (⟨Nat.zero_le _, by simp⟩) Zc Zc rfl tk ?_
  rintro ⟨k, acc⟩ hI
  try simp only [kA, List.append_assoc] at hI ⊢
  try dsimp only at hI ⊢
  obtain ⟨hk0, hacc⟩ := hI
  by_cases hlt : k < q
  ·have hal : acc.length = q := by rw [hacc]; simp; omega
   obtain ⟨pb, pc, e1⟩ := hown1.pos (by omega)
   cases e1
   have hkR : k < RS.length := by rw [hRl]; exact hlt
   have hkv := get_step RS k hkR
   have hset := set_step RS k hkR
   rw [← hacc] at hkv
   rw [← hacc] at hset
   generalize RS[k]'hkR = r at *
   have hld := row_get (sp := sp1) acc k r hkv
   haveI hst := row_setL (sp := sp1) (r.note.take (min (r.note.length : Int) 9).toNat) hkv
   have e9 := take_min9 r.note
   repeat' (first | refine zV ?_ | intro _)
   rw [show ZG (.slice (some ⟨pb, 0, none⟩) q c1) ((acc.map Yu).flatten) sp1 171 = [(pb, .cells ⟨(acc.map Yu).flatten ++ sp1⟩ 171 (0, 0))] from rfl]
   refine tc_phase 20 (Zp _ _ ([[(pb, .cells ⟨(acc.map Yu).flatten ++ sp1⟩ 171 (0, 0))], [(b1, .cells ⟨[.int .i64 kind, .slice (some ⟨pb, 0, none⟩) q c1, .slice a2 m c2]⟩ 112 (0, 0))]])) (by decide +kernel) (Wp (hT := tk) (Hp.le_refl _)) ?_
   simp only [List.take_succ_cons, List.take_zero]
   all_goals (refine rFa 0 ?_; refine rLd 1 ?_; refine rMv 2 ?_; refine rFa 3 ?_; refine rLd 4 ?_; refine rMv 5 ?_; refine rIa 6 ?_; refine rFa 7 ?_; refine rLd 8 ?_; refine rFa 9 ?_; refine rLd 10 ?_; refine rMv 11 ?_; refine rIa 12 ?_; refine rFa 13 ?_; refine rLd 14 ?_; refine rBi 15 ?_; refine rBi 16 ?_; refine rSl 17 ?_; refine rIa 18 ?_; refine rFa 19 ?_; refine rDone ?_)
   all_goals refine te_phase (fuel := 1) (m := [true, true, true, true, true, true, true, true, true, true, true, true, true, true, true, true, true, true, true, true, false]) (Zp _ _ ([])) rfl rfl (Wp (hT := tk) (Hp.le_refl _)) ?_
   all_goals (refine rStep (i := 20) ?_; ((try refine Zn ?_); (first | (refine Yj ?_; try intro _)) <;> ((try simp only [kA]); refine Zi ?_; refine rNext ?_)))
   all_goals refine rDone ?_
   all_goals rw [e9]
   all_goals (repeat' (first | refine zV ?_ | intro _))
   have hsr : (⟨r.t, r.id, r.val, r.note.take 9⟩ : Row) = shortR r := rfl
   rw [hsr]
   rw [← show ZG (.slice (some ⟨pb, 0, none⟩) q c1) (((acc.set k (shortR r)).map Yu).flatten) sp1 171 = [(pb, .cells ⟨((acc.set k (shortR r)).map Yu).flatten ++ sp1⟩ 171 (0, 0))] from rfl]
   refine Zf (k + 1, acc.set k (shortR r)) (⟨hlt, hset⟩) Zc Zc rfl tk inferInstance (by first | omega | (dsimp only; omega))
  ·have hkq : k = q := by omega
   have hfin : acc = RS.map shortR := by rw [hacc, List.take_of_length_le (by omega), List.drop_eq_nil_of_le (by omega), List.append_nil]
   have hal : acc.length = q := by rw [hfin]; simp; omega
   have hown1' : OwnS (.slice a1 q c1) q ((acc.map Yu).flatten) sp1 4 := by
    have hL : ((acc.map Yu).flatten).length = ((RS.map Yu).flatten).length := by rw [Xe Yu 4 _ (fun x _ => rfl), Xe Yu 4 _ (fun x _ => rfl), hal, hRl]
    rcases hown1.out with ⟨h1, h2, h3, h4⟩ | ⟨b, cap, h1, h2, h3, h4⟩
    ·exact ⟨.inl ⟨h1, h2, List.eq_nil_of_length_eq_zero (by rw [hL, h3]; rfl), h4⟩⟩
    ·exact ⟨.inr ⟨b, cap, h1, by rw [hL]; exact h2, by rw [hL]; exact h3, h4⟩⟩
   refine tc_freeze (ZG (.slice a1 q c1) ((acc.map Yu).flatten) sp1 171) (fun ρ1 hle1 hfz1 => ?_)
   obtain ⟨a3, c3, e3, hc3, hA3⟩ := hown1'.aIn hal (fun x _ => rfl) hfz1
   cases e3
   refine tc_freeze (ZG (.slice a2 m c2) ((KS.map Xj).flatten) sp2 238) (fun ρ2 hle2 hfz2 => ?_)
   obtain ⟨a4, c4, e4, hc4, hA4⟩ := hown2.aIn hk5.len (fun x _ => rfl) hfz2
   cases e4
   repeat' (first | refine zV ?_ | intro _)
   exact qE (L' := []) ⟨Hp.le_trans hle1 hle2, ⟨a1, q, c1, a2, m, c2⟩, rfl, ⟨by rw [← hfin]; exact hA3.mono hle2, hA4, by dsimp only; omega, by dsimp only; omega, hc3, hc4⟩, rfl⟩
theorem few24_spec (ρ : Hp) (v : RV) (r : Rc) (h : RcW ρ v r) : Spec Tryz.prog 40 [.agg ⟨Xw v r⟩] ρ []
  (fun z ρ' L' => ρ.le ρ' ∧ ∃ v' r', z = .agg ⟨Xw v' r'⟩ ∧ RcIn ρ' v' r' ∧ r'.plain = fewR24 r ∧ L' = []) := by
 obtain ⟨hi, him, hs, ht, hd, hsf⟩ := h
 have hsl := hs.at'.len
 have hsb := hs.big
 have htl := ht.at'.len
 have htb := ht.big
 have hdl := hd.at'.len
 have hdb := hd.big
 have cs := hs.cap
 have ct := ht.cap
 have cd := hd.cap
 obtain ⟨ms, hms⟩ : ∃ m, m = min v.s.n 3 := ⟨_, rfl⟩
 obtain ⟨mt, hmt⟩ : ∃ m, m = min v.t.n 9 := ⟨_, rfl⟩
 obtain ⟨md, hmd⟩ : ∃ m, m = min v.d.n 65 := ⟨_, rfl⟩
 have hsm : (min (v.s.n : Int) 3).toNat = ms := by omega
 have htm : (min (v.t.n : Int) 9).toNat = mt := by omega
 have hdm : (min (v.d.n : Int) 65).toNat = md := by omega
 have hS := hs.at'.take (hi' := ms) (by omega)
 have hT := ht.at'.take (hi' := mt) (by omega)
 have hD := hd.at'.take (hi' := md) (by omega)
 rw [take_some 3 _ _ _ hsl hms] at hS
 rw [take_some 9 _ _ _ htl hmt] at hT
 rw [take_some 65 _ _ _ hdl hmd] at hD
 have hSf : ∀ s ∈ r.steps.take 3, WU s.row := fun s hh => hsf s (List.mem_of_mem_take hh)
 have hil := hi.at'.len
 have hib := hi.big
 refine Za Tryz.func40 rfl rfl rfl fun u R => ?_
 simp only [Zg, kA]
 repeat' (first | refine zV ?_ | intro _)
 rename_i b1 b2
 refine Zl [(1, _), (2, _), (7, _), (8, _)] (fun (ζ : (Nat) × (Hp) × (Value) × (List Value) × (List Im)) => [(9, .int .i64 ζ.1), (3, ζ.2.2.1)]) (fun (ζ : (Nat) × (Hp) × (Value) × (List Value) × (List Im)) => ζ.2.1) (fun (ζ : (Nat) × (Hp) × (Value) × (List Value) × (List Im)) => [ZG ζ.2.2.1 ((ζ.2.2.2.2.map imV).flatten) ζ.2.2.2.1 165]) (fun (ζ : (Nat) × (Hp) × (Value) × (List Value) × (List Im)) => ζ.1 ≤ v.i.n ∧ ρ.le ζ.2.1 ∧ OwnS ζ.2.2.1 ζ.2.2.2.2.length ((ζ.2.2.2.2.map imV).flatten) ζ.2.2.2.1 7 ∧ ζ.2.2.2.2.map Im.plain = (r.ims.take (min ζ.1 17)).map fewIm ∧ (∀ x ∈ ζ.2.2.2.2, Im.In ζ.2.1 x)) (fun (ζ : (Nat) × (Hp) × (Value) × (List Value) × (List Im)) => v.i.n - ζ.1) ((0, ρ, .slice none 0 0, [], [])) (⟨Nat.zero_le _, Hp.le_refl _, OwnS.nil 7, by simp, by simp⟩) Zc Zc rfl tk ?_
 rintro ⟨k, ρ1, vv, sp, acc⟩ hI
 try simp only [kA, List.append_assoc] at hI ⊢
 try dsimp only at hI ⊢
 obtain ⟨hk, hle1, hown, hacc, hin⟩ := hI
 have hal : acc.length = min k 17 := by have := congrArg List.length hacc; simp at this; omega
 obtain ⟨va, vc, rfl, _⟩ := hown.slice
 by_cases hlt : k < v.i.n
 ·obtain ⟨b, off, C, T, fr, e1, hb, hfit, hc⟩ := (hi.at'.mono hle1).get (show k < r.ims.length by omega)
  have hts := List.take_succ_eq_append_getElem (show k < r.ims.length by omega)
  obtain ⟨hxb, hxa⟩ := him _ (List.getElem_mem (show k < r.ims.length by omega))
  generalize r.ims[k]'(by omega) = x at *
  rw [e1]
  by_cases h16 : k ≤ 16
  ·have hcb := content24_spec ρ1 x.bv x.b (hxb.mono hle1).few
   have hca := fun ρ2 (hle : ρ1.le ρ2) => content24_spec ρ2 x.av x.a (hxa.mono (Hp.le_trans hle1 hle)).few
   repeat' (first | refine zV ?_ | intro _)
   refine tpA [0,1,2,3,4,6,7] (.e 5 [] (.e 8 [9] (.e 10 [] (.e 11 [] (.f [12] .o))))) ([[(_, .cells ⟨imV x⟩ 165 (0, 0))]]) ?_
   repeat' (refine iT ?_; first | refine rAb ?_ | ((refine iE ?_; refine rE ?_) <;> ((try refine Zn ?_); (first | (refine Zb (.func 117) ?_; refine qC rfl rfl (hcb) ?_; rintro v ρ' L' hle ⟨hl2, w2, rfl, hC2, rfl⟩ <;> (try simp only [kA])) | (refine Zb (.func 117) ?_; refine qC rfl rfl (hca _ hl2) ?_; rintro v ρ' L' hle ⟨hl3, w3, rfl, hC3, rfl⟩ <;> (try simp only [kA])) | (refine Yx (css := [[.int .i64 x.page, .int .i64 x.b.kind, .slice w2.ra w2.rn w2.rc, .slice w2.ka w2.kn w2.kc, .int .i64 x.a.kind, .slice w3.ra w3.rn w3.rc, .slice w3.ka w3.kn w3.kc]]) (sz := 7) rfl rfl rfl rfl (by simp) (by simp) rfl (fun bs => ?_); simp only [List.flatten_cons, List.flatten_nil, List.append_nil]) | (refine Yv (ys := [.int .i64 x.page, .int .i64 x.b.kind, .slice w2.ra w2.rn w2.rc, .slice w2.ka w2.kn w2.kc, .int .i64 x.a.kind, .slice w3.ra w3.rn w3.rc, .slice w3.ka w3.kn w3.kc]) (m := 1) rfl rfl hown (hR := by infer_instance) (SrcV.lit) rfl rfl (by decide) rfl (by omega) (by omega) rfl (fun v' sp' hown' => ?_)) | (refine Yj ?_; try intro _)) <;> ((try simp only [kA]); refine Zi ?_; refine rN ?_))))
   all_goals (
    have hy : ∃ y : Im, (⟨x.page, w2, fewC x.b, w3, fewC x.a⟩ : Im) = y := ⟨_, rfl⟩
    obtain ⟨y, hy⟩ := hy
    have hyp : y.plain = fewIm x := by rw [← hy]; rfl
    have hyi : Im.In ρ' y := by rw [← hy]; exact ⟨(fewC_fit hxb hC2).mono hl3, fewC_fit hxa hC3⟩
    have hyl : [.int .i64 x.page, .int .i64 x.b.kind, .slice w2.ra w2.rn w2.rc, .slice w2.ka w2.kn w2.kc, .int .i64 x.a.kind, .slice w3.ra w3.rn w3.rc, .slice w3.ka w3.kn w3.kc] = imV y := by rw [← hy]; rfl
    rw [hyl] at hown' ⊢
    have hm : (acc.map imV).flatten ++ imV y = ((acc ++ [y]).map imV).flatten := by simp
    rw [hm] at hown' ⊢
    have hac2 : (acc ++ [y]).map Im.plain = (r.ims.take (min (k + 1) 17)).map fewIm := by
     rw [List.map_append, hacc, show min k 17 = k by omega, show min (k + 1) 17 = k + 1 by omega, hts]
     simp [hyp]
    have hin2 : ∀ z ∈ acc ++ [y], Im.In ρ' z := fun z hz => by
     rcases List.mem_append.1 hz with hz | hz
     ·exact (hin z hz).mono (Hp.le_trans hl2 hl3)
     ·rw [List.mem_singleton.1 hz]; exact hyi
    have hown2 : OwnS v' (acc ++ [y]).length (((acc ++ [y]).map imV).flatten) sp' 7 := by simpa using hown'
    obtain ⟨va', vc', rfl, _⟩ := hown2.slice
    skip)
   all_goals (repeat' (first | refine zV ?_ | intro _))
   all_goals rw [← e1]
   all_goals refine Zf (k + 1, _, _, sp', acc ++ [y]) (⟨hlt, Hp.le_trans hle1 (Hp.le_trans hl2 hl3), hown2, hac2, hin2⟩) Zc Zc rfl tk inferInstance (by first | omega | (dsimp only; omega))
  ·have hacc' : acc.map Im.plain = (r.ims.take (min (k + 1) 17)).map fewIm := by rw [hacc, show min k 17 = 17 by omega, show min (k + 1) 17 = 17 by omega]
   repeat' (first | refine zV ?_ | intro _)
   rw [← e1]
   refine Zf (k + 1, ρ1, _, sp, acc) (⟨hlt, hle1, hown, hacc', hin⟩) Zc Zc rfl tk inferInstance (by first | omega | (dsimp only; omega))
 ·have hk2 : k = v.i.n := by omega
  have hacc2 : acc.map Im.plain = (r.ims.take 17).map fewIm := by rw [hacc, take_some 17 r.ims v.i.n (min k 17) hil (by omega)]
  have hρ := hle1
  have hSl := hS.len
  have hTl := hT.len
  have hDl := hD.len
  unfold fewR24
  generalize hSS : r.steps.take 3 = SS at *
  generalize hTT : r.txns.take 9 = TT at *
  generalize hDD : r.dirty.take 65 = DD at *
  refine tc_freeze (ZG (.slice va acc.length vc) ((acc.map imV).flatten) sp 165) (fun ρ2 hle2 hfz => ?_)
  obtain ⟨sa, sc, e1, hsc, hAI⟩ := hown.aIn rfl (fun x _ => imV_len x) hfz
  cases e1
  have hρ := Hp.le_trans hρ hle2
  clear hfz
  repeat' (first | (simp only [hsm]; refine Yv (n := 0) (xs := []) (sp := []) (ys := (SS.map stpV).flatten) (m := ms) (sz := 6) rfl rfl (OwnS.zero _ 6) (hR := Zz) (AIn.srcV (hS.mono hρ)) (by rw [Xe stpV 6 _ (fun x _ => rfl), hSl]) (flat_one stpV stpV_one _) (by decide) rfl (by omega) (by omega) rfl (fun v1 sp1 hown1 => ?_); simp only [Nat.zero_add, List.nil_append] at hown1 ⊢; refine ZA _ (h := Rem.here) (fun ρ3 hle3 hfz => ?_); obtain ⟨a1, c1, rfl, hsc3, hAS⟩ := hown1.aIn hSl (fun x _ => stpV_len x) hfz; clear hfz) | (simp only [htm]; refine Yv (n := 0) (xs := []) (sp := []) (ys := (TT.map ckTV).flatten) (m := mt) (sz := 5) rfl rfl (OwnS.zero _ 5) (hR := Zz) (AIn.srcV ((hT.mono hρ).mono hle3)) (by rw [Xe ckTV 5 _ (fun x _ => rfl), hTl]) (flat_one ckTV ckTV_one _) (by decide) rfl (by omega) (by omega) rfl (fun v4 sp4 hown4 => ?_); simp only [Nat.zero_add, List.nil_append] at hown4 ⊢; refine ZA _ (h := Rem.here) (fun ρ4 hle4 hfz => ?_); obtain ⟨a4, c4, rfl, hsc4, hAT⟩ := hown4.aIn hTl (fun x _ => ckTV_len x) hfz; clear hfz) | (simp only [hdm]; refine Yv (n := 0) (xs := []) (sp := []) (ys := (DD.map YN).flatten) (m := md) (sz := 2) rfl rfl (OwnS.zero _ 2) (hR := Zz) (AIn.srcV (((hD.mono hρ).mono hle3).mono hle4)) (by rw [Xe YN 2 _ (fun x _ => rfl), hDl]) (flat_one YN ckPV_one _) (by decide) rfl (by omega) (by omega) rfl (fun v5 sp5 hown5 => ?_); simp only [Nat.zero_add, List.nil_append] at hown5 ⊢; refine ZA _ (h := Rem.here) (fun ρ5 hle5 hfz => ?_); obtain ⟨a5, c5, rfl, hsc5, hAD⟩ := hown5.aIn hDl (fun x _ => ckPV_len x) hfz; clear hfz) | refine zV ?_ | intro _)
  have h25 := Hp.le_trans hle3 (Hp.le_trans hle4 hle5)
  exact qE (L' := []) ⟨Hp.le_trans hρ h25, ⟨⟨va, acc.length, vc⟩, ⟨a1, ms, c1⟩, ⟨a4, mt, c4⟩, ⟨a5, md, c5⟩⟩, { r with ims := acc, steps := SS, txns := TT, dirty := DD }, rfl, ⟨⟨hAI.mono h25, by dsimp only; omega, hsc⟩, fun x hx => (hin x hx).mono (Hp.le_trans hle2 h25), ⟨hAS.mono (Hp.le_trans hle4 hle5), by dsimp only; omega, hsc3⟩, ⟨hAT.mono hle5, by dsimp only; omega, hsc4⟩, ⟨hAD, by dsimp only; omega, hsc5⟩, hSf⟩, by rw [← hacc2], rfl⟩
end Go.Proofs.E
namespace Go.Proofs.E
open Go
set_option linter.unusedVariables false
set_option linter.unusedSimpArgs false
set_option linter.unusedSectionVars false
set_option maxRecDepth 4000
set_option maxHeartbeats 1000000
attribute [local irreducible] Yl TL TC TE Spec ZK R1 Hp.le EnvLe TS TR YS Zp
theorem RO.frame {R : RgS} {D D' : DS} (h : RO R D) (hok : D'.Ok) (ha : D'.dead = false) (he : YD D'.secs) (hl : D'.secs.length = D.secs.length) (hi : ∀ i, i < R.h.size + 2 → img D' i = img D i) : RO R D' := by
 have hsz := h.ok.size
 have hm : ∀ x, 2 + x % R.h.size < R.h.size + 2 := fun x => by have := Nat.mod_lt x (show 0 < R.h.size by omega); omega
 refine ⟨h.ok, h.live, h.num, hok, ha, he, by rw [hl]; exact h.len, ?_, ?_, h.has.frame rfl (fun j _ => hi _ (hm _)), ?_, fun q hq => by rw [hi _ (by omega)]; exact h.bound q hq⟩
 ·rw [hi _ (by omega)]; exact h.head
 ·rw [hi _ (by omega)]; exact h.other
 ·intro hlt t b h1 h2 h3 h4
  obtain ⟨k, hk, hne⟩ := h.none hlt t b h1 h2 h3 h4
  exact ⟨k, hk, by rw [hi _ (hm _)]; exact hne⟩
theorem Good.frame {R : RgS} {D D' : DS} (h : Good R D) (hok : D'.Ok) (hc : D'.Calm) (he : YD D'.secs) (hl : D'.secs.length = D.secs.length) (hi : ∀ i, i < R.h.size + 2 → img D' i = img D i) : Good R D' :=
 ⟨h.ro.frame hok hc.dead he hl hi, fun q hq => by rw [hi _ (by omega)]; exact h.frs q hq, hc⟩
theorem FO.frame {D D' : DS} {base t : Nat} {held : Nat → ZL} (h : FO D base t held) (hok : D'.Ok) (ha : D'.dead = false) (he : YD D'.secs) (hl : D'.secs.length = D.secs.length) (hi : ∀ i, base ≤ i → i < base + 256 → img D' i = img D i) : FO D' base t held := by
 have hp : ∀ num j, num < 64 → j < 4 → pg D' base num j = pg D base num j := fun num j h1 h2 => hi _ (by omega) (by omega)
 refine ⟨hok, ha, he, by rw [hl]; exact h.len, fun num j h1 h2 => by rw [hp num j h1 h2]; exact h.sec num j h1 h2, fun num h1 => ?_⟩
 unfold csD
 rw [hp num 0 h1 (by omega), hp num 1 h1 (by omega), hp num 2 h1 (by omega), hp num 3 h1 (by omega)]
 exact h.held num h1
theorem writeF_frame {D : DS} {base t : Nat} {held : Nat → ZL} (h : FO D base t held) (hc : D.Calm) {num lsn : Nat} {c : Yi} (hn : num < 64) (ht : t + 1 < M64) :
  (Xt D base num lsn c).2 = 0 ∧ (Xt D base num lsn c).1.Calm ∧ YD (Xt D base num lsn c).1.secs ∧ (Xt D base num lsn c).1.secs.length = D.secs.length ∧ ∀ i, i < base ∨ base + 256 ≤ i → img (Xt D base num lsn c).1 i = img D i := by
 obtain ⟨w0, w1⟩ := writeF_calm (lsn := lsn) (c := c) h hc hn ht
 have hln := h.len
 have hL : base + 4 * num + 4 ≤ D.secs.length := by omega
 obtain ⟨e1, e2⟩ := countsD_calm hc hL
 have hv := countsD_val h.empty h.alive hL e1
 have hs1 := Va (D := D) (base := base) (num := num)
 obtain ⟨m1, m2, _⟩ := csD_most h hn (by omega)
 refine ⟨w0, w1, ?_⟩
 unfold Xt
 rw [if_neg (by simp [e1]), hv]
 dsimp only
 rw [if_neg (by unfold M64 at ht; omega)]
 have hidx : ∀ p ∈ YH (base + 4 * num + 2 * (csD D base num).other) (ZD num ((csD D base num).most + 1) lsn c 0) (ZD num ((csD D base num).most + 1) lsn c 1), base ≤ p.1 ∧ p.1 < base + 256 := fun p hp => by
  simp only [YH, List.mem_cons, List.not_mem_nil, or_false] at hp
  rcases hp with rfl | rfl <;> dsimp only <;> omega
 obtain ⟨l0, l1, l2⟩ := XI (YH (base + 4 * num + 2 * (csD D base num).other) (ZD num ((csD D base num).most + 1) lsn c 0) (ZD num ((csD D base num).most + 1) lsn c 1)) (Zt D base num).2.1 e2 (fun p hp => by
  rw [hs1]; have := hidx p hp; omega)
 refine ⟨by rw [l2]; exact Yf, by rw [Xa, hs1], fun i hi => ?_⟩
 rcases YZ (s := (Zt D base num).2.1.secs) (by rw [hs1]; exact h.empty) l2 D hs1.symm i with e | ⟨p, hp, h1, _⟩
 ·exact e
 ·have := hidx p hp; omega
end Go.Proofs.E
namespace Go.Proofs.E
open Go
set_option linter.unusedVariables false
set_option linter.unusedSimpArgs false
set_option linter.unusedSectionVars false
set_option maxRecDepth 4000
set_option maxHeartbeats 1000000
attribute [local irreducible] Yl TL TC TE Spec ZK R1 Hp.le EnvLe TS TR YS Zp TP QP
def begR (lsn : Nat) (txn : Nat) : Rc := ⟨1, lsn, txn, 0, 0, [], [], 0, [], []⟩
abbrev begX (lsn txn : Nat) : RR := (zRR.1, begR lsn txn)
theorem begR_ok {lsn txn : Nat} (h1 : 1 ≤ lsn) (h2 : lsn ≤ 1099511627776) (h3 : 1 ≤ txn) (h4 : txn ≤ 1073741824) : ZP (begR lsn txn) = true := by
 unfold ZP begR headOk askOk bareOk
 simp only [Bool.and_eq_true, decide_eq_true_eq]
 refine ⟨by omega, ⟨by omega, by omega, by omega, by omega, by omega, by simp; omega, by simp⟩, by simp, by simp⟩
theorem begR_len (lsn txn : Nat) : (WB (begR lsn txn)).length = 21 := by simp [WB, recHB, recTB, begR, Zj]
theorem begR_cost {lsn txn : Nat} (h : ZP (begR lsn txn) = true) : WZ (begR lsn txn) = 1 := by
 rw [costN_ok h, begR_len]; rfl
theorem LgIn.at {ρ S v sp} (h : LgIn ρ S v sp) (R : RgS) (f : Nat) : LgIn ρ (S.at R f) v sp := ⟨h.own, h.rin, h.ok, h.used, h.base⟩
end Go.Proofs.E
namespace Go.Proofs.E
open Go
set_option linter.unusedVariables false
set_option linter.unusedSimpArgs false
set_option linter.unusedSectionVars false
set_option maxRecDepth 4000
set_option maxHeartbeats 1000000
attribute [local irreducible] Yl TL TC TE Spec ZK R1 Hp.le EnvLe TS TR YS Zp
abbrev XB (s m : Nat) : List RR := (List.range' s m).map (fun i => begX i 1)
theorem begL_len (s m : Nat) : (XB s m).length = m := by simp [XB]
theorem begL_mem {s m : Nat} {x : RR} (h : x ∈ XB s m) : ∃ i, s ≤ i ∧ i < s + m ∧ x = begX i 1 := by
 obtain ⟨i, hi, rfl⟩ := List.mem_map.1 h
 rw [List.mem_range'_1] at hi
 exact ⟨i, hi.1, hi.2, rfl⟩
theorem begL_used (s m : Nat) (h1 : 1 ≤ s) (h2 : s + m ≤ 1000) : Xs (XB s m) = m := by
 induction m generalizing s with
 | zero => rfl
 | succ m ih =>
  have e : XB s (m + 1) = begX s 1 :: XB (s + 1) m := by simp [XB, List.range'_succ]
  rw [e]
  have := ih (s + 1) (by omega) (by omega)
  have hc := begR_cost (lsn := s) (txn := 1) (begR_ok h1 (by omega) (by omega) (by omega))
  simp only [Xs, List.map_cons, List.sum_cons] at this ⊢
  rw [this, hc]; omega
def pS (R : RgS) (fl m : Nat) : LgS := ⟨R, 1, fl, 0, 1, XB 1 m⟩
theorem pS_next (R : RgS) (fl m : Nat) : (pS R fl m).next = m + 1 := by simp [pS, LgS.next]; omega
theorem filter_beg : ∀ (m s lsn : Nat), (XB s m).filter (fun x => decide (lsn ≤ x.2.lsn)) = XB (max s lsn) (s + m - max s lsn)
 | 0, s, lsn => by simp [XB, show s - max s lsn = 0 by omega]
 | m + 1, s, lsn => by
  have e : XB s (m + 1) = begX s 1 :: XB (s + 1) m := by simp [XB, List.range'_succ]
  rw [e, List.filter_cons, filter_beg m (s + 1) lsn]
  by_cases h : lsn ≤ s
  ·rw [if_pos (show decide (lsn ≤ (begX s 1).2.lsn) = true from decide_eq_true h)]
   rw [show max (s + 1) lsn = s + 1 by omega, show max s lsn = s by omega, show s + (m + 1) - s = m + 1 by omega, show s + 1 + m - (s + 1) = m by omega]
   simp [XB, List.range'_succ]
  ·rw [if_neg (show ¬ decide (lsn ≤ (begX s 1).2.lsn) = true from fun e => h (of_decide_eq_true e)), show max (s + 1) lsn = max s lsn by omega, show s + 1 + m = s + (m + 1) by omega]
theorem upTo_beg : ∀ (m s to : Nat), upTo to (XB s m) = XB s (min m (to + 1 - s))
 | 0, s, to => by simp [XB]
 | m + 1, s, to => by
  have e : XB s (m + 1) = begX s 1 :: XB (s + 1) m := by simp [XB, List.range'_succ]
  have ih := upTo_beg m (s + 1) to
  unfold upTo at ih ⊢
  rw [e, List.takeWhile_cons]
  by_cases h : s ≤ to
  ·rw [if_pos (show decide ((begX s 1).2.lsn ≤ to) = true from decide_eq_true h), ih, show min (m + 1) (to + 1 - s) = min m (to + 1 - (s + 1)) + 1 by omega]
   simp [XB, List.range'_succ]
  ·rw [if_neg (show ¬ decide ((begX s 1).2.lsn ≤ to) = true from fun e => h (of_decide_eq_true e)), show min (m + 1) (to + 1 - s) = 0 by omega]; rfl
theorem lastF_beg : ∀ (m s f : Nat), lastF f (XB s m) = if m = 0 then f else s + m - 1
 | 0, s, f => rfl
 | m + 1, s, f => by
  have e : XB s (m + 1) = begX s 1 :: XB (s + 1) m := by simp [XB, List.range'_succ]
  rw [e]
  show lastF s (XB (s + 1) m) = _
  rw [lastF_beg m (s + 1) s]
  split
  ·rename_i h; subst h; simp
  ·rw [if_neg (by omega)]; omega
structure StoK (R : RgS) (fl m : Nat) (D : DS) (t : Nat) (held : Nat → ZL) : Prop where
 good : Good R D
 fo : FO D 902 t held
 head : R.h = ZI 450
 used : R.used = fl
 ents : R.ents.length = fl
 le : fl ≤ m
 few : m ≤ 300
theorem StoK.flush {R : RgS} {fl m : Nat} {D : DS} {t : Nat} {held : Nat → ZL} (h : StoK R fl m D t held) {to : Nat} (h1 : fl < to) (h2 : to ≤ m) :
  ∃ R' D', (pS R fl m).flush to D = (pS R' to m, D', 0) ∧ StoK R' to m D' t held ∧ D'.Calm := by
 have hle := h.le
 have hfw := h.few
 have hu := h.used
 have hsz : R.h.size = 450 := by rw [h.head]; rfl
 have hf1 : R.h.first = 1 := by rw [h.head]; rfl
 have hfr : fromL (pS R fl m) (fl + 1) = XB (fl + 1) (m - fl) := by
  unfold fromL pS
  rw [filter_beg, show max 1 (fl + 1) = fl + 1 by omega, show 1 + m - (fl + 1) = m - fl by omega]
 obtain ⟨R', D', e, g', q1, q2, q3, q4, q5⟩ := flushL_good to (XB (fl + 1) (m - fl)) R D fl h.good (fun x hx => by
  obtain ⟨i, h3, h4, rfl⟩ := begL_mem hx
  exact begR_ok (by omega) (by omega) (by omega) (by omega)) (by rw [begL_used _ _ (by omega) (by omega)]; omega) (by rw [begL_len]; unfold RgS.next; rw [hf1, h.ents]; omega)
 have hup : upTo to (XB (fl + 1) (m - fl)) = XB (fl + 1) (to - fl) := by rw [upTo_beg, show min (m - fl) (to + 1 - (fl + 1)) = to - fl by omega]
 rw [hup] at e q2 q3
 rw [lastF_beg, if_neg (by omega), show fl + 1 + (to - fl) - 1 = to by omega] at e
 rw [begL_used _ _ (by omega) (by omega)] at q3
 refine ⟨R', D', ?_, ⟨g', h.fo.frame g'.ro.dok g'.ro.alive g'.ro.empty q4 (fun i h3 h4 => q5 i (by omega)), by rw [q1, h.head], by omega, by rw [q2, List.length_append, List.length_map, begL_len, h.ents]; omega, h2, hfw⟩, g'.calm⟩
 unfold LgS.flush
 rw [pS_next, if_neg (by omega), show (pS R fl m).fl = fl from rfl, hfr, show (pS R fl m).R = R from rfl, e]
 rfl
theorem StoK.write {R : RgS} {fl m : Nat} {D : DS} {t : Nat} {held : Nat → ZL} (h : StoK R fl m D t held) {num lsn : Nat} {c : Yi} (hn : num < 64) (hc : Fit c) (hl : lsn < M64) (ht : t + 1 < M64) :
  ∃ D', Xt D 902 num lsn c = (D', 0) ∧ StoK R fl m D' (t + 1) (upd held num (c, lsn)) := by
 obtain ⟨w0, w1, w2, w3, w4⟩ := writeF_frame (lsn := lsn) (c := c) h.fo h.good.calm hn ht
 have hw := h.fo.write hn hc hl ht
 have hsz : R.h.size = 450 := by rw [h.head]; rfl
 exact ⟨_, Prod.ext rfl w0, h.good.frame hw.2.2 w1 w2 w3 (fun i hi => w4 i (by omega)), hw.1 w0, h.head, h.used, h.ents, h.le, h.few⟩
theorem StoK.lv {R : RgS} {fl m : Nat} {D D' : DS} {t : Nat} {held : Nat → ZL} (h : StoK R fl m D t held) (hl : Lv D D') (hf : FO D' 902 t held) : StoK R fl m D' t held :=
 ⟨h.good.frame hf.dok (hl.calm h.good.calm) hf.empty (by rw [hl.secs]) (fun i _ => by rw [XA hl.secs]), hf, h.head, h.used, h.ents, h.le, h.few⟩
theorem StoK.more {R : RgS} {fl m : Nat} {D : DS} {t : Nat} {held : Nat → ZL} (h : StoK R fl m D t held) (hm : m < 300) : StoK R fl (m + 1) D t held :=
 ⟨h.good, h.fo, h.head, h.used, h.ents, by have := h.le; omega, by omega⟩
theorem StoK.steal {R : RgS} {fl m : Nat} {D : DS} {t : Nat} {held : Nat → ZL} (h : StoK R fl m D t held) {num : Nat} {g : Pg} (hn : num < 64) (hc : Fit g.c) (hl : g.lsn ≤ m) (ht : t + 1 < M64) :
  ∃ R' D', XS (pS R fl m) D 902 num g = (pS R' (max fl g.lsn) m, D', 0) ∧ StoK R' (max fl g.lsn) m D' (t + 1) (upd held num (g.c, g.lsn)) := by
 have hfw := h.few
 unfold XS stealF
 by_cases hlt : fl < g.lsn
 ·obtain ⟨R1, D1, e1, k1, _⟩ := h.flush hlt hl
  obtain ⟨D2, e2, k2⟩ := k1.write (num := num) (lsn := g.lsn) (c := g.c) hn hc (by unfold M64; omega) ht
  rw [show (pS R fl m).fl = fl from rfl, if_pos hlt, e1]
  dsimp only
  rw [if_neg (by simp), e2, show max fl g.lsn = g.lsn by omega]
  exact ⟨R1, D2, rfl, k2⟩
 ·obtain ⟨D2, e2, k2⟩ := h.write (num := num) (lsn := g.lsn) (c := g.c) hn hc (by unfold M64; omega) ht
  rw [show (pS R fl m).fl = fl from rfl, if_neg hlt]
  dsimp only
  rw [if_neg (by simp), e2, show max fl g.lsn = fl by omega]
  exact ⟨R, D2, rfl, k2⟩
theorem filt_drop : ∀ (l : List RR) (b fr : Nat), (∀ i (h : i < l.length), (l[i]).2.lsn = b + i) → l.filter (fun x => decide (fr ≤ x.2.lsn)) = l.drop (fr - b)
 | [], _, _, _ => by simp
 | x :: l, b, fr, h => by
  have h0 := h 0 (by simp)
  have ih := filt_drop l (b + 1) fr (fun i hi => by have := h (i + 1) (by simpa using hi); simp only [List.getElem_cons_succ] at this; omega)
  simp only [List.getElem_cons_zero] at h0
  rw [List.filter_cons]
  by_cases hb : fr ≤ b
  ·rw [if_pos (by simp; omega), ih, show fr - (b + 1) = 0 by omega, show fr - b = 0 by omega]; rfl
  ·rw [if_neg (by simp; omega), ih, show fr - b = (fr - (b + 1)) + 1 by omega, List.drop_succ_cons]
theorem app_facts {S : LgS} {r : Rc} (h : appE S r 0 = 0) : ZP r = true ∧ r.lsn = S.next ∧ Xs S.recs + WZ r ≤ 400 ∧ S.next ≠ 1099511627776 := by
 unfold appE at h
 split at h
 ·omega
 ·rename_i h1
  split at h
  ·omega
  ·split at h
   ·omega
   ·exact ⟨by simpa using h1, by omega, by omega, by omega⟩
def mkS (l : List RR) : LgS := ⟨⟨ZI 450, [], 0, false⟩, 1, 0, 0, 1, l⟩
structure MkOk (l : List RR) : Prop where
 ok : ∀ x ∈ l, ZP x.2 = true
 lsn : ∀ i (h : i < l.length), (l[i]).2.lsn = 1 + i
 used : Xs l ≤ 400
theorem MkOk.nil : MkOk [] := ⟨by simp, by simp, by simp [Xs]⟩
theorem mkS_next (l : List RR) : (mkS l).next = 1 + l.length := rfl
theorem MkOk.len {l : List RR} (h : MkOk l) : l.length ≤ 400 := Nat.le_trans (usedR_len h.ok) h.used
theorem MkOk.more {l : List RR} (h : MkOk l) {x : RR} (ha : appE (mkS l) x.2 0 = 0) : MkOk (l ++ [x]) := by
 obtain ⟨h1, h2, h3, _⟩ := app_facts ha
 refine ⟨fun y hy => ?_, fun i hi => ?_, ?_⟩
 ·rcases List.mem_append.1 hy with hy | hy
  ·exact h.ok y hy
  ·rw [List.mem_singleton.1 hy]; exact h1
 ·by_cases hlt : i < l.length
  ·rw [List.getElem_append_left hlt]; exact h.lsn i hlt
  ·simp only [List.length_append, List.length_cons, List.length_nil] at hi
   rw [List.getElem_append_right (by omega)]
   simp only [show i - l.length = 0 by omega, List.getElem_cons_zero]
   rw [h2, mkS_next]; omega
 ·rw [usedR_add]; simp only [mkS] at h3; simpa [Xs] using h3
theorem upTo_all : ∀ (l : List RR) (to : Nat), (∀ x ∈ l, x.2.lsn ≤ to) → upTo to l = l
 | [], _, _ => rfl
 | x :: r, to, h => by
  have ih := upTo_all r to (fun y hy => h y (by simp [hy]))
  unfold upTo at ih ⊢
  rw [List.takeWhile_cons, decide_eq_true (h x (by simp)), ih]; rfl
theorem lastF_all : ∀ (l : List RR) (f : Nat), (∀ i (h : i < l.length), (l[i]).2.lsn = f + 1 + i) → lastF f l = f + l.length
 | [], f, _ => rfl
 | x :: r, f, h => by
  have h0 := h 0 (by simp)
  simp only [List.getElem_cons_zero] at h0
  show lastF x.2.lsn r = _
  rw [lastF_all r x.2.lsn (fun i hi => by have := h (i + 1) (by simpa using hi); simp only [List.getElem_cons_succ] at this; omega)]
  simp only [List.length_cons]; omega
theorem MkOk.flush {l : List RR} (h : MkOk l) {D : DS} (g : Good ⟨ZI 450, [], 0, false⟩ D) :
  ∃ R' D', (mkS l).flush ((mkS l).next - 1) D = ((mkS l).at R' l.length, D', 0) ∧ Good R' D' ∧ D'.secs.length = D.secs.length ∧ ∀ i, 452 ≤ i → img D' i = img D i := by
 have hlen := h.len
 have hfr : fromL (mkS l) ((mkS l).fl + 1) = l := by
  have := filt_drop l 1 1 h.lsn
  rw [Nat.sub_self, List.drop_zero] at this
  exact this
 have hall : ∀ x ∈ l, x.2.lsn ≤ l.length := fun x hx => by
  obtain ⟨i, hi, rfl⟩ := List.getElem_of_mem hx
  rw [h.lsn i hi]; omega
 obtain ⟨R', D', e, g', _, _, _, q4, q5⟩ := flushL_good l.length l ⟨ZI 450, [], 0, false⟩ D 0 g h.ok (by have := h.used; simp only [ZI]; omega) (by simp only [RgS.next, ZI, List.length_nil]; omega)
 rw [upTo_all l _ hall, lastF_all l 0 (fun i hi => h.lsn i hi), Nat.zero_add] at e
 refine ⟨R', D', ?_, g', q4, fun i hi => q5 i (by simp only [ZI]; omega)⟩
 unfold LgS.flush
 rw [if_neg (by rw [mkS_next]; omega), hfr, mkS_next, Nat.add_sub_cancel_left, show (mkS l).R = ⟨ZI 450, [], 0, false⟩ from rfl, show (mkS l).fl = 0 from rfl, e]
theorem recF_known {S : LgS} {l : List RR} (hr : S.recs = l) (h : MkOk l) (lsn : Nat) : (recF S lsn).isSome = decide (1 ≤ lsn ∧ lsn ≤ l.length) := by
 unfold recF fromL
 rw [hr, filt_drop l 1 lsn h.lsn]
 by_cases hlt : lsn - 1 < l.length
 ·rw [List.drop_eq_getElem_cons hlt]
  show (if (l[lsn - 1]).2.lsn = lsn then some l[lsn - 1] else none).isSome = _
  rw [h.lsn _ hlt]
  by_cases h1 : 1 ≤ lsn
  ·rw [if_pos (by omega), decide_eq_true ⟨h1, by omega⟩]; rfl
  ·rw [if_neg (by omega), decide_eq_false (by omega)]; rfl
 ·rw [List.drop_eq_nil_of_le (by omega), decide_eq_false (by omega)]; rfl
theorem recF_mem {S : LgS} {l : List RR} (hr : S.recs = l) (h : MkOk l) : ∀ x ∈ l, (recF S x.2.lsn).isSome = true := fun x hx => by
 obtain ⟨i, hi, rfl⟩ := List.getElem_of_mem hx
 rw [recF_known hr h, decide_eq_true]
 rw [h.lsn i hi]; omega
theorem FO.zero {D : DS} {base : Nat} (hok : D.Ok) (ha : D.dead = false) (he : YD D.secs) (hl : base + 256 ≤ D.secs.length) (himg : ∀ i, i < 256 → img D (base + i) = YQ) : FO D base 0 (fun _ => zHeld) := by
 have hpg : ∀ num j, num < 64 → j < 4 → pg D base num j = YQ := fun num j h1 h2 => by
  unfold pg; rw [Nat.add_assoc]; exact himg _ (by omega)
 refine ⟨hok, ha, he, hl, fun num j h1 h2 => .inl (hpg num j h1 h2), fun num h1 => ?_⟩
 unfold csD
 rw [hpg num 0 h1 (by omega), hpg num 1 h1 (by omega), hpg num 2 h1 (by omega), hpg num 3 h1 (by omega), (cs2_eq num YQ YQ YQ YQ).1]
 have hr : (Yb num YQ YQ).right = false := by
  cases hr : (Yb num YQ YQ).right with
  | false => rfl
  | true =>
   have := (says_right (by rfl) (by rfl) hr).1
   rw [stamp_zblk] at this; omega
 rw [if_neg (by simp [hr]), if_neg (by simp [hr])]
theorem img_new {n i : Nat} (h : i < n) : img (DS.new n) i = YQ := by simp [img, DS.new, fresh, h]
theorem format_img {n : Nat} {D D' : DS} {R : RgS} (hc : D.Calm) (he : YD D.secs) (hl : n + 2 ≤ D.secs.length) (h : We n D = (some R, D', 0)) : ∀ i, n + 2 ≤ i → img D' i = img D i := by
 have hidx : ∀ p ∈ Zy n, p.1 < n + 2 := fun p hp => by
  simp only [Zy, List.mem_map, List.mem_range] at hp
  obtain ⟨k, hk, rfl⟩ := hp
  exact hk
 obtain ⟨l0, l1, l2⟩ := XI (Zy n) D hc (fun p hp => by have := hidx p hp; omega)
 have hlen1 := Xa (Zy n) D
 have hemp1 : YD (DS.lays (Zy n) D).1.secs := by rw [l2]; exact Yf
 obtain ⟨m0, m1, m2⟩ := XI (Ys (ZI n)) (DS.lays (Zy n) D).1 l1 (fun p hp => by rw [(YL hp).1, hlen1]; simp only [ZI]; omega)
 unfold We at h
 split at h
 ·simp at h
 ·rw [Int.toNat_natCast, if_pos l0, if_pos m0] at h
  have e := congrArg (fun x => x.2.1) h
  dsimp only at e
  intro i hi
  rw [← e]
  rcases YZ hemp1 m2 (DS.lays (Zy n) D).1 rfl i with e1 | ⟨p, hp, h1, _⟩
  ·rw [e1]
   rcases YZ he l2 D rfl i with e2 | ⟨p, hp, h1, _⟩
   ·exact e2
   ·have := hidx p hp; omega
  ·rw [(YL hp).1] at h1; simp only [ZI] at h1; omega
theorem kformat24 (ρ : Hp) (db : Nat) (k : DK) (hk : DOk k (DS.new 1158)) :
  Spec Tryz.prog 24 [.pointer (some ⟨db, 0, none⟩), .int .i64 450] ρ (Zk db k (DS.new 1158)) (fun v ρ' L' => ρ.le ρ' ∧ ∃ lb rb w k' D', v = .tuple ⟨[.pointer (some ⟨lb, 0, none⟩), .int .i64 0]⟩ ∧ DOk k' D' ∧ RIn ρ' ⟨ZI 450, [], 0, false⟩ w ∧ Good ⟨ZI 450, [], 0, false⟩ D' ∧ D'.secs.length = 1158 ∧ (∀ i, 452 ≤ i → i < 1158 → img D' i = YQ) ∧ L' = ZR lb rb (mkS []) (.slice none 0 0) :: (Yw rb db ⟨ZI 450, [], 0, false⟩ w ++ Zk db k' D')) := by
 obtain ⟨D', e, g⟩ := Good.format (D := DS.new 1158) (n := 450) (new_okD (by omega) (by omega)) new_calm (by omega) (by omega) (by simp [DS.new, fresh]) fresh_empty
 have himg := format_img new_calm fresh_empty (by simp [DS.new, fresh]) e
 have hlen : D'.secs.length = 1158 := by
  unfold We at e
  split at e
  ·simp at e
  ·split at e
   ·split at e
    ·have := congrArg (fun x => x.2.1.secs.length) e
     dsimp only at this
     rw [← this, Xa, Xa]; simp [DS.new, fresh]
    ·simp at e
   ·simp at e
 have hf := format_spec ρ db k (DS.new 1158) hk 450 (by omega)
 rw [show ((450 : Int)) = ((450 : Nat) : Int) from rfl, e] at hf
 refine Za Tryz.func24 rfl rfl rfl fun u R => ?_
 simp only [Zg, kA]
 repeat' (first | (refine Zb (.func 13) ?_; refine qC rfl rfl hf ?_; rintro v1 ρ1 L1 hle1 ⟨hl1, k1, hk1, rb, w, rfl, hr, rfl⟩; try simp only [kA, List.append_assoc]) | refine zW ?_ | intro _)
 rename_i lb
 exact qE (L' := ZR lb rb (mkS []) (.slice none 0 0) :: (Yw rb db ⟨ZI 450, [], 0, false⟩ w ++ Zk db k1 D')) ⟨hl1, lb, rb, w, k1, D', rfl, hk1, hr, g, hlen, fun i h1 h2 => by rw [himg i h1]; exact img_new h2, rfl⟩
theorem fo_write {D : DS} {t : Nat} {held : Nat → ZL} (h : FO D 902 t held) (hc : D.Calm) {num lsn : Nat} {c : Yi} (hn : num < 64) (hf : Fit c) (hl : lsn < M64) (ht : t + 1 < M64) : ∃ D', Xt D 902 num lsn c = (D', 0) ∧ FO D' 902 (t + 1) (upd held num (c, lsn)) ∧ D'.Calm := by
 obtain ⟨w0, w1⟩ := writeF_calm (lsn := lsn) (c := c) h hc hn ht
 exact ⟨_, Prod.ext rfl w0, (h.write hn hf hl ht).1 w0, w1⟩
theorem stepnil_spec (ρ : Hp) (s : SV) (v : RV) (r : Rc) : Spec Tryz.prog 41 [.pointer none, .slice s.a s.n s.c, .agg ⟨Xw v r⟩] ρ [] (fun z ρ' L' => z = .tuple ⟨[.int .i64 0, .int .i64 1]⟩ ∧ ρ' = ρ ∧ L' = []) := by
 refine Za Tryz.func41 rfl rfl rfl fun u R => ?_
 simp only [Zg, kA]
 repeat' (first | refine zV ?_ | intro _)
 exact qE (L' := []) ⟨rfl, rfl, rfl⟩
def wnI (n : Int) : Im := ⟨n, nilCV, ztC, nilCV, ztC⟩
def wnR : Rc := ⟨2, 7, 1, 1, 0, [wnI 2, wnI 5], [], 0, [], []⟩
def wnD : List CkP := [⟨2, 7⟩, ⟨5, 3⟩]
def wnF (m : Nat) (n : Int) : Nat := if n = 5 then m else 0
theorem wn_why : whyE wnD wnR = 0 := by decide +kernel
theorem wn_a : (redoL (wnF 0) wnD wnR).map Im.page = [2, 5] := by decide +kernel
theorem wn_b : (redoL (wnF 7) wnD wnR).map Im.page = [2] := by decide +kernel
theorem wnSh (ρ : Hp) (b : Nat) (W : List Value) (m : Nat) (h2 : W[0 + 2 * 4 + 3]? = some (.int .u64 0)) (h5 : W[0 + 5 * 4 + 3]? = some (.int .u64 m)) (s : SV) (hd : AS ρ 2 YN s wnD) (v : RV) (h : RcIn ρ v wnR) :
  Spec Tryz.prog 116 [.slice (some ⟨b, 0, none⟩) 64 64, .slice s.a s.n s.c, .agg ⟨Xw v wnR⟩] ρ [[(b, .cells ⟨W⟩ 114 (0, 0))]]
   (fun z ρ' L' => ρ.le ρ' ∧ ∃ s2 : SV, z = .tuple ⟨[.slice s2.a s2.n s2.c, .int .i64 0]⟩ ∧ AS ρ' 4 shV s2 ((redoL (wnF m) wnD wnR).map WF) ∧ L' = [[(b, .cells ⟨W⟩ 114 (0, 0))]]) := by
 have e : shE wnD wnR 64 = 0 := by unfold shE; rw [wn_why]; rfl
 have := rsheets_spec ρ (some ⟨b, 0, none⟩) 64 64 s wnD hd v wnR h [[(b, .cells ⟨W⟩ 114 (0, 0))]] (wnF m) (fun _ _ lb ρ2 _ x hx => by
  have hx : x = wnI 2 ∨ x = wnI 5 := by simpa [wnR] using hx
  rcases hx with rfl | rfl
  ·exact lsn1_own ρ2 lb b 64 64 W 2 0 (by decide) (by decide) h2
  ·exact lsn1_own ρ2 lb b 64 64 W 5 m (by decide) (by decide) h5)
 rw [e, if_pos rfl] at this
 exact this
theorem wnA (ρ : Hp) (b : Nat) (W : List Value) (h2 : W[0 + 2 * 4 + 3]? = some (.int .u64 0)) (h5 : W[0 + 5 * 4 + 3]? = some (.int .u64 0)) (s : SV) (hd : AS ρ 2 YN s wnD) (v : RV) (h : RcIn ρ v wnR) :
  Spec Tryz.prog 116 [.slice (some ⟨b, 0, none⟩) 64 64, .slice s.a s.n s.c, .agg ⟨Xw v wnR⟩] ρ [[(b, .cells ⟨W⟩ 114 (0, 0))]]
   (fun z ρ' L' => ρ.le ρ' ∧ ∃ s2 : SV, z = .tuple ⟨[.slice s2.a 2 s2.c, .int .i64 0]⟩ ∧ L' = [[(b, .cells ⟨W⟩ 114 (0, 0))]]) := by
 refine (wnSh ρ b W 0 h2 h5 s hd v h).mono ?_
 rintro z ρ' L' _ ⟨q1, s2, q2, q3, q4⟩
 have e : s2.n = 2 := by
  have := q3.at'.len
  have h3 := congrArg List.length wn_a
  simp only [List.length_map, List.length_cons, List.length_nil] at this h3
  omega
 rw [e] at q2
 exact ⟨q1, s2, q2, q4⟩
theorem wnB (ρ : Hp) (b : Nat) (W : List Value) (h2 : W[0 + 2 * 4 + 3]? = some (.int .u64 0)) (h5 : W[0 + 5 * 4 + 3]? = some (.int .u64 7)) (s : SV) (hd : AS ρ 2 YN s wnD) (v : RV) (h : RcIn ρ v wnR) :
  Spec Tryz.prog 116 [.slice (some ⟨b, 0, none⟩) 64 64, .slice s.a s.n s.c, .agg ⟨Xw v wnR⟩] ρ [[(b, .cells ⟨W⟩ 114 (0, 0))]]
   (fun z ρ' L' => ρ.le ρ' ∧ ∃ b2 off C T fr c, z = .tuple ⟨[.slice (some ⟨b2, off, none⟩) 1 c, .int .i64 0]⟩ ∧ ρ' b2 = some (.cells ⟨C⟩ T fr) ∧ C[off + (0 : Int).toNat * 4 + 0]? = some (.int .i64 2) ∧ L' = [[(b, .cells ⟨W⟩ 114 (0, 0))]]) := by
 refine (wnSh ρ b W 7 h2 h5 s hd v h).mono ?_
 rintro z ρ' L' _ ⟨q1, s2, q2, q3, q4⟩
 have hl := q3.at'.len
 have h3 := congrArg List.length wn_b
 simp only [List.length_map, List.length_cons, List.length_nil] at hl h3
 have h4 := congrArg (fun l => l[0]?) wn_b
 simp only [List.getElem?_map, List.getElem?_cons_zero, List.getElem?_eq_getElem (show 0 < (redoL (wnF 7) wnD wnR).length by omega), Option.map_some, Option.some.injEq] at h4
 obtain ⟨b2, off, C, T, fr, e1, hb, hfit, hc⟩ := q3.at'.get (show 0 < ((redoL (wnF 7) wnD wnR).map WF).length by rw [List.length_map]; omega)
 rw [List.getElem_map] at hc
 have hc0 := cell_at4 hc (d := 0) rfl
 rw [show (WF ((redoL (wnF 7) wnD wnR)[0]'(by omega))).page = 2 from h4] at hc0
 refine ⟨q1, b2, off, C, T, fr, s2.c, ?_, hb, hc0, q4⟩
 rw [q2, e1, show s2.n = 1 by omega]
theorem set7 {W : List Value} (h : W.length = 256) : SetL W (0 + (5 : Int).toNat * 4 + 3) (.int .u64 7) (W.set 23 (.int .u64 7)) := by
 refine ⟨by rw [h]; decide, ?_⟩
 rw [List.set_eq_take_append_cons_drop, if_pos (by rw [h]; decide)]
 simp [stc]
def wnW : Array Value := madeCells (Value.cells (.agg ⟨[.int .i64 0, .slice none 0 0, .slice none 0 0, .int .u64 0]⟩)) (Int.toNat 64 * 4)
theorem wn_W : wnW.toList.length = 256 ∧ wnW.toList[0 + 2 * 4 + 3]? = some (.int .u64 0) ∧ wnW.toList[0 + 5 * 4 + 3]? = some (.int .u64 0) := ⟨by kernel_rfl, by kernel_rfl, by kernel_rfl⟩
theorem wakes24_spec (ρ : Hp) : Spec Tryz.prog 37 [] ρ [] (fun v ρ' L' => v = .bool true ∧ ρ.le ρ' ∧ L' = []) := by
 refine Za Tryz.func37 rfl rfl rfl fun u R => ?_
 simp only [Zg, kA]
 repeat' (first | (refine Yx (css := [imV (wnI 2), imV (wnI 5)]) (sz := 7) rfl rfl rfl rfl (by simp) (by simp) rfl (fun bs => ?_); simp only [List.flatten_cons, List.flatten_nil, List.append_nil]; refine ZA _ (h := Rem.here) (fun ρz hlz hfz => ?_); have hbs := hfz _ (List.mem_singleton.2 rfl); clear hfz; (try simp only [List.nil_append])) | (refine Yx (css := [YN ⟨2, 7⟩, YN ⟨5, 3⟩]) (sz := 2) rfl rfl rfl rfl (by simp) (by simp) rfl (fun bs2 => ?_); simp only [List.flatten_cons, List.flatten_nil, List.append_nil]; refine ZA _ (h := Rem.here) (fun ρy hly hfy => ?_); have hbs2 := hfy _ (List.mem_singleton.2 rfl); clear hfy; (try simp only [List.nil_append])) | refine zV ?_ | intro _)
 refine Vi rfl rfl (by omega) (by omega) (by omega) (by omega) rfl (fun hbn => ?_)
 have hW := wn_W
 obtain ⟨W0, hW0⟩ : ∃ W0 : List Value, wnW = ⟨W0⟩ := ⟨_, rfl⟩
 rw [hW0] at hW
 rw [show madeCells (Value.cells (.agg ⟨[.int .i64 0, .slice none 0 0, .slice none 0 0, .int .u64 0]⟩)) (Int.toNat 64 * 4) = ⟨W0⟩ from hW0]
 clear hW0
 obtain ⟨hW1, hW2, hW3⟩ := hW
 simp only [show Int.toNat 64 = 64 from rfl]
 haveI hst := set7 hW1
 have hd : ∀ ρq, ρy.le ρq → AS ρq 2 YN ⟨some ⟨bs2, 0, none⟩, 2, 2⟩ wnD := fun ρq hq => ⟨⟨rfl, .inr ⟨bs2, 0, _, _, _, rfl, Hp.up hq hbs2, Nat.le_refl _, rfl⟩, by (intro x hx; rfl)⟩, by (dsimp only; omega), Nat.le_refl _⟩
 have hr : ∀ ρq, ρz.le ρq → RcIn ρq ⟨⟨some ⟨bs, 0, none⟩, 2, 2⟩, ⟨none, 0, 0⟩, ⟨none, 0, 0⟩, ⟨none, 0, 0⟩⟩ wnR := fun ρq hq => ⟨⟨⟨rfl, .inr ⟨bs, 0, _, _, _, rfl, Hp.up hq hbs, Nat.le_refl _, rfl⟩, by (intro x hx; rfl)⟩, by (dsimp only; omega), Nat.le_refl _⟩, fun x hx => by (have hx : x = wnI 2 ∨ x = wnI 5 := by (simpa [wnR] using hx)); (rcases hx with rfl | rfl); (exact ⟨CI.nil, CI.nil⟩); (exact ⟨CI.nil, CI.nil⟩), AS.nil, AS.nil, AS.nil, by (simp [wnR])⟩
 have h11 : (W0.set 23 (Value.int .u64 7))[0 + 2 * 4 + 3]? = some (.int .u64 0) := by (rw [List.getElem?_set_ne (by decide)]; exact hW2)
 have h23 : (W0.set 23 (Value.int .u64 7))[0 + 5 * 4 + 3]? = some (.int .u64 7) := by (rw [List.getElem?_set_self (by rw [hW1]; decide)])
 repeat' (first | (refine Zb (.func 116) ?_; refine qC rfl rfl ((wnA _ hbn W0 hW2 hW3 ⟨some ⟨bs2, 0, none⟩, 2, 2⟩ (hd _ (Hp.le_refl _)) _ (hr _ hly))) ?_; rintro v ρ' L' hle ⟨hz1, s2, rfl, rfl⟩ <;> (try simp only [kA])) | (refine Zb (.func 116) ?_; refine qC rfl rfl ((wnB _ hbn (W0.set 23 (.int .u64 7)) h11 h23 ⟨some ⟨bs2, 0, none⟩, 2, 2⟩ (hd _ hz1) _ (hr _ (Hp.le_trans hly hz1)))) ?_; rintro v ρ' L' hle ⟨hz2, b3, off, C, T, fr, c3, rfl, hb3, hcell, rfl⟩ <;> (try simp only [kA])) | (refine Zb (.func 41) ?_; refine qC rfl rfl ((stepnil_spec _ ⟨some ⟨bs2, 0, none⟩, 2, 2⟩ ⟨⟨some ⟨bs, 0, none⟩, 2, 2⟩, ⟨none, 0, 0⟩, ⟨none, 0, 0⟩, ⟨none, 0, 0⟩⟩ wnR)) ?_; rintro v ρ' L' hle ⟨rfl, rfl, rfl⟩ <;> (try simp only [kA])) | refine zV ?_ | intro _)
 exact qE (L' := []) (hle := Hp.le_trans hlz (Hp.le_trans hly (Hp.le_trans hz1 hz2))) ⟨rfl, Hp.le_trans hlz (Hp.le_trans hly (Hp.le_trans hz1 hz2)), rfl⟩
end Go.Proofs.E
