/- Laws of analysis. Part 21 of 41. -/
import Derived.Test.YtkbiahafeoillaaGreatA20
namespace Go.Proofs.E
open Go
set_option linter.unusedVariables false
set_option linter.unusedSimpArgs false
set_option linter.unusedSectionVars false
set_option maxRecDepth 4000
set_option maxHeartbeats 1000000
attribute [local irreducible] Yl TL TC TE Spec Xb R1 Hp.le EnvLe TS TR YS Zk
def sectsB (n : Nat) : Nat := max 1 ((n + 51) / 52)
theorem rsects_spec (ρ : Hp) (n : Nat) (hn : n ≤ 4611686018427387904) : Spec Tryz.prog 175 [.int .i64 n] ρ [] (fun v ρ' L' => v = .int .i64 (sectsB n : Nat) ∧ ρ' = ρ ∧ L' = []) := by
 refine Zd Tryz.func175 rfl rfl rfl fun u R => ?_
 simp only [Zo, List.cons_append, List.nil_append]
 have e : max 1 (IntKind.i64.wrap (((n : Int) + 52 - 1).tdiv 52)) = ((sectsB n : Nat) : Int) := by
  rw [Int.tdiv_eq_ediv_of_nonneg (by omega), WO (by simp only [lo, hi]; omega)]
  unfold sectsB; omega
 repeat' (first | refine zV ?_ | intro _)
 rw [e]
 exact qE ⟨rfl, rfl, rfl⟩
theorem listB_le {α : Type} (f : α → List UInt8) (m : Nat) (l : List α) (h : ∀ x ∈ l, (f x).length ≤ m) : (XJ f l).length ≤ 1 + l.length * m := by
 have := Yd f m l h
 unfold XJ
 rw [List.length_cons]; omega
theorem recB_le {r : Rc} (h : LayOk r) : (XA r).length ≤ 4000 := by
 have h1 : (recHB r).length = 21 := by simp [recHB, Zm]
 have h2 : (imsB r).length ≤ 1 + r.ims.length * 165 := listB_le _ 165 r.ims (fun x hx => imB_len (h.im x hx).2.1 (h.im x hx).2.2)
 have h3 : (XJ XB r.steps).length ≤ 1 + r.steps.length * 21 := listB_le _ 21 r.steps (fun x hx => stpB_len (h.st x hx))
 have h4 : (XJ XT r.txns).length ≤ 1 + r.txns.length * 29 := listB_le _ 29 r.txns (fun x hx => Nat.le_of_eq (ckTB_len x))
 have h5 : (XJ Wq r.dirty).length ≤ 1 + r.dirty.length * 9 := listB_le _ 9 r.dirty (fun x hx => Nat.le_of_eq (ckPB_len x))
 have a1 := h.il
 have a2 := h.sl
 have a3 := h.tl
 have a4 := h.dl
 have h6 : (recTB r).length ≤ 3900 := by
  unfold recTB
  split
  ·omega
  ·split
   ·rw [Zm]; omega
   ·split
    ·rw [List.length_append, Zm]; omega
    ·split
     ·rw [List.length_append, Zm]; omega
     ·split
      ·rw [List.length_append, List.length_append, Zm]; omega
      ·simp
 unfold XA
 rw [List.length_append]; omega
def errN (r : Rc) : Int := if ZU r then 0 else 220
def undI (x : Im) : Im := ⟨0, nilCV, ztC, x.bv, x.b⟩
def undR (l : List Im) : Rc := ⟨5, 0, 0, 0, 0, l.map undI, [], 0, [], []⟩
def stepN (s : Stp) : Nat := if s.kind = 3 ∨ s.kind = 4 then 12 else 1
def pagesN (l : List Stp) : Nat := (l.map stepN).sum
def XZ (r : Rc) : Nat :=
 if ZU r then (if r.kind = 1 then 2 else if r.kind = 2 then sectsB (XA (undR r.ims)).length else if r.kind = 4 then sectsB (30 + min (pagesN r.steps) 16 * 83) else 0) else 0
theorem contOk_z : YE ztC = true := by decide
theorem undR_lay {l : List Im} (h1 : l.length ≤ 16) (h2 : ∀ x ∈ l, YE x.b = true) : LayOk (undR l) := by
 refine ⟨by simp [undR], by simp [undR], by simp [undR], by simp [undR], by simp [undR], by simp [undR], by simp [undR]; omega, ?_, by simp [undR], by simp [undR], by simp [undR], by simp [undR], by simp [undR], by simp [undR]⟩
 intro x hx
 obtain ⟨y, hy, rfl⟩ := List.mem_map.1 hx
 exact ⟨by simp [undI], h2 y hy, contOk_z⟩
def unT (x : TxP) : Tx := ⟨x.num, x.state, x.first, x.last, x.undo, x.stack, x.marks, ⟨none, 0, 0⟩, ⟨none, 0, 0⟩⟩
def rosOkP (p : Xh) : Bool := WB ⟨p.next, p.txns.map unT⟩
theorem txsB_p (next : Int) : ∀ (l : List Tx) (last : Int), txsB next last ((l.map Tx.p).map unT) = txsB next last l
 | [], _ => rfl
 | x :: r, last => by
  simp only [List.map_cons, txsB]
  rw [show txOk next last (unT x.p) = txOk next last x from rfl, show (unT x.p).num = x.num from rfl, txsB_p next r]
theorem rosOk_p (r : Ros) : rosOkP r.p = WB r := by
 unfold rosOkP WB
 simp only [Ros.p, List.length_map, txsB_p]
def Xw (r : Rc) : Lf := ⟨r.lsn, (XZ r : Nat)⟩
def backT (t : TxP) (to : Nat) : TxP := { t with undo := to, stack := t.stack.filter (fun s => decide (s.lsn ≤ to)), marks := t.marks.filter (fun m => decide (m ≤ to)) }
def pushT (t : TxP) (r : Rc) : TxP := { t with undo := r.lsn, stack := t.stack ++ [Xw r] }
def XK (t : TxP) (r : Rc) : Bool := decide (t.first ≤ r.next ∧ r.next ≤ t.undo)
def WG (t : TxP) : Bool := decide (t.state = 1)
def mayT (t : TxP) (r : Rc) : Bool :=
 if r.kind = 3 ∨ r.kind = 4 then WG t && XK t r
 else if r.kind = 5 then decide (t.state ≠ 3) && (XK t r && decide (r.next < t.undo))
 else WG t
def XN (t : TxP) (r : Rc) : TxP :=
 if r.kind = 2 then pushT { t with last := r.lsn } r
 else if r.kind = 3 ∨ r.kind = 5 then backT { t with last := r.lsn } r.next
 else if r.kind = 4 then pushT (backT { t with last := r.lsn } r.next) r
 else if r.kind = 6 then { t with last := r.lsn, state := 3, marks := [], stack := [] }
 else { t with last := r.lsn, state := 2, marks := [] }
def Xg (p : Xh) (num : Int) : Option TxP := p.txns.find? (fun t => decide (t.num = num))
def putT (p : Xh) (t : TxP) : Xh := { p with txns := p.txns.map (fun x => if x.num = t.num then t else x) }
def dropT (p : Xh) (num : Int) : Xh := { p with txns := p.txns.filter (fun x => decide (x.num ≠ num)) }
def newT (r : Rc) : TxP := ⟨r.txn, 1, r.lsn, r.lsn, r.lsn, [], []⟩
def ownE (o : Option TxP) (r : Rc) : Int := match o with | none => 4 | some t => if r.prev ≠ t.last then 2 else if r.kind = 8 then 0 else if mayT t r then 0 else 2
def YI (p : Xh) (r : Rc) : Int :=
 if r.kind = 9 then 0
 else if r.kind = 1 then (if r.txn ≠ p.next ∨ p.next = 1073741824 then 2 else if 8 ≤ p.txns.length then 6 else 0)
 else ownE (Xg p r.txn) r
def ownP (p : Xh) (o : Option TxP) (r : Rc) : Xh := match o with | none => p | some t => if r.kind = 8 then dropT p r.txn else putT p (XN t r)
def Xn (p : Xh) (r : Rc) : Xh :=
 if r.kind = 9 then p
 else if r.kind = 1 then ⟨p.next + 1, p.txns ++ [newT r]⟩
 else ownP p (Xg p r.txn) r
def takeE (p : Xh) (r : Rc) : Int := if rosOkP p then (if ZU r then YI p r else 220) else 280
def takeP (p : Xh) (r : Rc) : Xh := if takeE p r = 0 then Xn p r else ⟨0, []⟩
structure TxG (t : TxP) : Prop where
 s1 : 1 ≤ t.state
 s3 : t.state ≤ 3
 f1 : 1 ≤ t.first
 fu : t.first ≤ t.undo
 ul : t.undo ≤ t.last
 lm : t.last ≤ 1099511627776
 st : ∀ s ∈ t.stack, t.first < s.lsn ∧ s.lsn ≤ t.undo ∧ 1 ≤ s.cost ∧ s.cost ≤ 400
 so : t.stack.Pairwise (fun a b => a.lsn < b.lsn)
 ml : t.marks.length ≤ 8
 ms : t.marks ≠ [] → t.state = 1
 mb : ∀ m ∈ t.marks, t.first ≤ m ∧ m ≤ t.undo
 mo : t.marks.Pairwise (· ≤ ·)
structure RosG (p : Xh) : Prop where
 n1 : 1 ≤ p.next
 n2 : p.next ≤ 1073741824
 len : p.txns.length ≤ 8
 tx : ∀ t ∈ p.txns, 0 < t.num ∧ t.num < p.next ∧ TxG t
 up : p.txns.Pairwise (fun a b => a.num < b.num)
theorem stackB_iff {undo : Nat} : ∀ {l : List Lf} {last : Nat}, Wp undo last l = true ↔ (∀ s ∈ l, last < s.lsn ∧ s.lsn ≤ undo ∧ 1 ≤ s.cost ∧ s.cost ≤ 400) ∧ l.Pairwise (fun a b => a.lsn < b.lsn)
 | [], last => by simp [Wp]
 | s :: r, last => by
  rw [Wp, Bool.and_eq_true, decide_eq_true_eq, stackB_iff, List.pairwise_cons]
  constructor
  ·rintro ⟨h1, h2, h3⟩
   refine ⟨fun x hx => ?_, fun x hx => (h2 x hx).1, h3⟩
   rcases List.mem_cons.1 hx with rfl | hx
   ·exact h1
   ·have := h2 x hx; omega
  ·rintro ⟨h1, h2, h3⟩
   refine ⟨h1 s (by simp), fun x hx => ⟨h2 x hx, (h1 x (by simp [hx])).2⟩, h3⟩
theorem pair_get {m : List Nat} (h : sortB m = true) : m.Pairwise (· ≤ ·) := by
 rw [List.pairwise_iff_getElem]
 intro i j hi hj hij
 have := sort_le h (Nat.le_of_lt hij) hj
 rwa [XM hi, XM hj] at this
theorem pair_sort {m : List Nat} (h : m.Pairwise (· ≤ ·)) : sortB m = true := by
 refine List.all_eq_true.2 (fun i hi => decide_eq_true ?_)
 have hi := List.mem_range.1 hi
 by_cases h0 : i = 0
 ·exact .inl h0
 ·right
  rw [XM hi, XM (show i - 1 < m.length by omega)]
  exact List.pairwise_iff_getElem.1 h (i - 1) i (by omega) hi (by omega)
theorem marksB_iff {x : Tx} : WH x = true ↔ x.marks.length ≤ 8 ∧ (x.marks ≠ [] → x.state = 1) ∧ (∀ m ∈ x.marks, x.first ≤ m ∧ m ≤ x.undo) ∧ x.marks.Pairwise (· ≤ ·) := by
 unfold WH
 by_cases h0 : x.marks = []
 ·simp [h0]
 ·have hp : 0 < x.marks.length := List.length_pos_iff.2 h0
  rw [decide_eq_false (by omega), Bool.false_or, Bool.and_eq_true, Bool.and_eq_true, decide_eq_true_eq, decide_eq_true_eq]
  constructor
  ·rintro ⟨⟨h1, h2⟩, h3, h4, h5⟩
   refine ⟨h2, fun _ => h1, fun m hm => ?_, pair_get h3⟩
   obtain ⟨i, hi, rfl⟩ := List.mem_iff_getElem.1 hm
   have g1 := sort_le h3 (Nat.zero_le i) hi
   have g2 := sort_le h3 (show i ≤ x.marks.length - 1 by omega) (by omega)
   rw [XM hi] at g1 g2
   omega
  ·rintro ⟨h1, h2, h3, h4⟩
   refine ⟨⟨h2 h0, h1⟩, pair_sort h4, ?_, ?_⟩
   ·rw [XM hp]; exact (h3 _ (List.getElem_mem hp)).1
   ·rw [XM (show x.marks.length - 1 < x.marks.length by omega)]; exact (h3 _ (List.getElem_mem _)).2
theorem tx18_iff {t : TxP} : tx18B (unT t) = true ↔ TxG t := by
 unfold tx18B
 rw [Bool.and_eq_true, Bool.and_eq_true, decide_eq_true_eq, stackB_iff, marksB_iff]
 constructor
 ·rintro ⟨⟨h1, h2, h3, h4, h5, h6⟩, ⟨h7, h8⟩, h9, h10, h11, h12⟩
  exact ⟨h1, h2, h3, h4, h5, h6, h7, h8, h9, h10, h11, h12⟩
 ·rintro ⟨h1, h2, h3, h4, h5, h6, h7, h8, h9, h10, h11, h12⟩
  exact ⟨⟨h1, h2, h3, h4, h5, h6⟩, ⟨h7, h8⟩, h9, h10, h11, h12⟩
theorem txsP_iff {next : Int} : ∀ {l : List TxP} {last : Int}, txsB next last (l.map unT) = true ↔ (∀ t ∈ l, last < t.num ∧ t.num < next ∧ TxG t) ∧ l.Pairwise (fun a b => a.num < b.num)
 | [], last => by simp [txsB]
 | t :: r, last => by
  rw [List.map_cons, txsB, txOk_18, Bool.and_eq_true, Bool.and_eq_true, decide_eq_true_eq, txsP_iff, List.pairwise_cons, tx18_iff]
  constructor
  ·rintro ⟨⟨⟨h1, h1'⟩, h2⟩, h3, h4⟩
   refine ⟨fun x hx => ?_, fun x hx => (h3 x hx).1, h4⟩
   rcases List.mem_cons.1 hx with rfl | hx
   ·exact ⟨h1, h1', h2⟩
   ·have := h3 x hx
    exact ⟨Int.lt_trans h1 this.1, this.2⟩
  ·rintro ⟨h1, h2, h3⟩
   have h0 := h1 t (by simp)
   exact ⟨⟨⟨h0.1, h0.2.1⟩, h0.2.2⟩, fun x hx => ⟨h2 x hx, (h1 x (by simp [hx])).2⟩, h3⟩
theorem rosG_iff {p : Xh} : rosOkP p = true ↔ RosG p := by
 unfold rosOkP WB
 rw [Bool.and_eq_true, decide_eq_true_eq, txsP_iff, List.length_map]
 exact ⟨fun ⟨⟨h1, h2, h3⟩, h4, h5⟩ => ⟨h1, h2, h3, h4, h5⟩, fun ⟨h1, h2, h3, h4, h5⟩ => ⟨⟨h1, h2, h3⟩, h4, h5⟩⟩
theorem findT_mem {p : Xh} {n : Int} {t : TxP} (h : Xg p n = some t) : t ∈ p.txns ∧ t.num = n := by
 unfold Xg at h
 exact ⟨List.mem_of_find?_eq_some h, by simpa using List.find?_some h⟩
theorem findT_idx {p : Xh} (h : RosG p) {i : Nat} (hi : i < p.txns.length) : Xg p (p.txns[i]).num = some p.txns[i] := by
 unfold Xg
 rw [List.find?_eq_some_iff_getElem]
 refine ⟨by simp, i, hi, rfl, fun j hj => ?_⟩
 have := List.pairwise_iff_getElem.1 h.up j i (by omega) hi hj
 simp only [Bool.not_eq_true', decide_eq_false_iff_not]; omega
theorem putT_set {p : Xh} (h : RosG p) {i : Nat} (hi : i < p.txns.length) {t : TxP} (ht : t.num = (p.txns[i]).num) : putT p t = { p with txns := p.txns.set i t } := by
 unfold putT
 congr 1
 apply List.ext_getElem (by simp)
 intro j h1 h2
 simp only [List.length_map] at h1
 rw [List.getElem_map, List.getElem_set]
 by_cases e : i = j
 ·subst e; rw [if_pos ht.symm, if_pos rfl]
 ·rw [if_neg e]
  have hne : (p.txns[j]).num ≠ (p.txns[i]).num := by
   rcases Nat.lt_or_gt_of_ne e with hl | hl
   ·have := List.pairwise_iff_getElem.1 h.up i j hi h1 hl; omega
   ·have := List.pairwise_iff_getElem.1 h.up j i h1 hi hl; omega
  rw [if_neg (fun e2 => hne (e2.trans ht))]
theorem pagesN_succ (l : List Stp) (k : Nat) (h : k < l.length) : pagesN (l.take (k + 1)) = pagesN (l.take k) + stepN l[k] := by
 unfold pagesN
 rw [List.take_succ_eq_append_getElem h, List.map_append, List.sum_append]
 simp
theorem pagesN_le (l : List Stp) : pagesN l ≤ l.length * 12 := by
 unfold pagesN
 induction l with
 | nil => simp
 | cons a r ih =>
  have : stepN a ≤ 12 := by unfold stepN; split <;> omega
  simp only [List.map_cons, List.sum_cons, List.length_cons]; omega
theorem undR_nil : (XA (undR [])).length = 30 := by decide
theorem rreserve_spec (ρ : Hp) (v : RV) (r : Rc) (h : RcIn ρ v r) : Spec Tryz.prog 146 [.agg ⟨Yx v r⟩] ρ []
  (fun z ρ' L' => ρ.le ρ' ∧ z = .tuple ⟨[.int .i64 (XZ r : Nat), .int .i64 (errN r)]⟩ ∧ L' = []) := by
 have hck := WA ρ v r h
 unfold XZ errN
 refine Zd Tryz.func146 rfl rfl rfl fun u R => ?_
 simp only [Zo, List.cons_append, List.nil_append]
 cases hok : ZU r
 ·rw [hok] at hck
  repeat' (first | (refine Zc (.func 52) ?_; refine qC rfl rfl (hck) ?_; rintro v ρ' L' hle ⟨rfl, rfl, rfl⟩ <;> (try simp only [kM, kN, kO, if_false, Bool.false_eq_true])) | refine zV ?_ | intro _)
  exact qE (L' := []) ⟨Hp.le_refl _, rfl, rfl⟩
 ·rw [hok] at hck
  simp only [if_true]
  have hF := Xp hok
  by_cases k1 : r.kind = 1
  ·rw [if_pos k1]
   repeat' (first | (refine Zc (.func 52) ?_; refine qC rfl rfl (hck) ?_; rintro v ρ' L' hle ⟨rfl, rfl, rfl⟩ <;> (try simp only [kM, kN, kO, if_true])) | refine zV ?_ | intro _)
   exact qE (L' := []) ⟨Hp.le_refl _, rfl, rfl⟩
  ·rw [if_neg k1]
   by_cases k2 : r.kind = 2
   ·rw [if_pos k2]
    have hA := h.i.at'
    have hl := hA.len
    have hil := hF.il
    have hlay := undR_lay hil (fun x hx => (hF.im x hx).2.2)
    repeat' (first | (refine Zc (.func 52) ?_; refine qC rfl rfl (hck) ?_; rintro v ρ' L' hle ⟨rfl, rfl, rfl⟩ <;> (try simp only [kM, kN, kO, if_true])) | refine zV ?_ | intro _)
    rename_i rb ub
    refine Zq [(1, _), (2, _), (3, _), (5, _), (6, _), (19, _), (25, _), (26, _)] (fun (ζ : (Nat) × (Value) × (List Value)) => [(27, .int .i64 ζ.1)]) (fun (ζ : (Nat) × (Value) × (List Value)) => ρ') (fun (ζ : (Nat) × (Value) × (List Value)) => [[(ub, .cells ⟨[.int .i64 5, .int .u64 0, .int .i64 0, .int .u64 0, .int .u64 0, ζ.2.1, .slice none 0 0, .int .i64 0, .slice none 0 0, .slice none 0 0]⟩ 34 (0, 0))], ZG ζ.2.1 ((((r.ims.take ζ.1).map undI).map imV).flatten) ζ.2.2 100, [(rb, .cells ⟨Yx v r⟩ 34 (0, 0))]]) (fun (ζ : (Nat) × (Value) × (List Value)) => ζ.1 ≤ v.i.n ∧ OwnS ζ.2.1 ζ.1 ((((r.ims.take ζ.1).map undI).map imV).flatten) ζ.2.2 7) (fun (ζ : (Nat) × (Value) × (List Value)) => v.i.n - ζ.1) ((0, .slice none 0 0, [])) (⟨Nat.zero_le _, OwnS.nil 7⟩) Ze Ze rfl tk ?_
    rintro ⟨k, vv, sp⟩ hI
    try simp only [List.cons_append, List.nil_append, List.append_assoc, List.append_eq] at hI ⊢
    try dsimp only at hI ⊢
    obtain ⟨hk, hown⟩ := hI
    obtain ⟨va, vc, rfl, _⟩ := hown.slice
    by_cases hlt : k < v.i.n
    ·obtain ⟨b, off, C, T, fr, e1, hb, hfit, hc⟩ := hA.get (show k < r.ims.length by omega)
     have hx := List.take_succ_eq_append_getElem (show k < r.ims.length by omega)
     generalize r.ims[k]'(by omega) = x at *
     rw [e1]
     repeat' (first | refine zV ?_ | intro _)
     refine ZH (css := [imV (undI x)]) (sz := 7) rfl rfl rfl rfl (by simp) (by simp) rfl (fun bs => ?_)
     simp only [List.flatten_cons, List.flatten_nil, List.append_nil]
     refine ZZ (ys := imV (undI x)) (m := 1) rfl rfl hown (hR := by infer_instance) (SrcV.lit) rfl rfl (by decide) rfl (by omega) (by omega) rfl (fun v' sp' hown' => ?_)
     have hm : (((r.ims.take k).map undI).map imV).flatten ++ imV (undI x) = (((r.ims.take (k + 1)).map undI).map imV).flatten := by rw [hx]; simp
     rw [hm] at hown' ⊢
     obtain ⟨va', vc', rfl, _⟩ := hown'.slice
     repeat' (first | refine zV ?_ | intro _)
     rw [← e1]
     refine Zg (k + 1, _, sp') (⟨hlt, hown'⟩) Ze Ze rfl tk inferInstance (by first | omega | (dsimp only; omega))
    ·have hk2 : k = r.ims.length := by omega
     rw [show r.ims.take k = r.ims by rw [hk2, List.take_length]] at hown ⊢
     refine tc_freeze (ZG (.slice va k vc) (((r.ims.map undI).map imV).flatten) sp 100) (fun ρ3 hle3 hfz => ?_)
     obtain ⟨sa, sc, e1, hsc, hA2⟩ := hown.aIn (by simp; omega) (fun x _ => imV_len x) hfz
     cases e1
     have hU : RcIn ρ3 ⟨⟨va, k, vc⟩, ⟨none, 0, 0⟩, ⟨none, 0, 0⟩, ⟨none, 0, 0⟩⟩ (undR r.ims) := ⟨⟨hA2, by dsimp only; omega, hsc⟩, fun x hx => by
      obtain ⟨y, hy, rfl⟩ := List.mem_map.1 hx
      exact ⟨CI.nil, ((h.im y hy).b).mono hle3⟩, AS.nil, AS.nil, AS.nil, by simp [undR]⟩
     have hla := rlaid_spec ρ3 _ _ hU hlay
     have hb4 := recB_le hlay
     repeat' (first | (refine Zc (.func 176) ?_; refine qC rfl rfl (hla) ?_; rintro v ρ' L' hle ⟨hl1, a, c, rfl, hc, hs, rfl⟩ <;> (try simp only [kM, kN, kO])) | (simp only [Int.add_zero]; refine Zc (.func 175) ?_; refine qC rfl rfl (rsects_spec _ _ (by omega)) ?_; rintro z1 ρ1 L1 hle0 ⟨rfl, rfl, rfl⟩; simp only [List.cons_append, List.nil_append]) | refine zV ?_ | intro _)
     exact qE (L' := []) ⟨Hp.le_trans hle3 hl1, rfl, rfl⟩
   ·rw [if_neg k2]
    by_cases k4 : r.kind = 4
    ·rw [if_pos k4]
     have hA := h.s.at'
     have hl := hA.len
     have hsl := hF.sl
     have hU : ∀ ρ, RcIn ρ ⟨⟨none, 0, 0⟩, ⟨none, 0, 0⟩, ⟨none, 0, 0⟩, ⟨none, 0, 0⟩⟩ (undR []) := fun ρ => ⟨AS.nil, by simp [undR], AS.nil, AS.nil, AS.nil, by simp [undR]⟩
     have hla := fun ρ => rlaid_spec ρ _ _ (hU ρ) (undR_lay (l := []) (by simp) (by simp))
     rw [undR_nil] at hla
     repeat' (first | (refine Zc (.func 52) ?_; refine qC rfl rfl (hck) ?_; rintro v ρ' L' hle ⟨rfl, rfl, rfl⟩ <;> (try simp only [kM, kN, kO, if_true])) | refine zV ?_ | intro _)
     rename_i rb ub
     refine Zq [(2, _), (3, _), (5, _), (6, _), (43, _), (44, _)] (fun (ζ : (Nat) × (Nat)) => [(45, .int .i64 ζ.1), (9, .int .i64 ζ.2)]) (fun (ζ : (Nat) × (Nat)) => ρ') (fun (ζ : (Nat) × (Nat)) => [[(rb, .cells ⟨Yx v r⟩ 34 (0, 0))]]) (fun (ζ : (Nat) × (Nat)) => ζ.1 ≤ v.s.n ∧ ζ.2 = pagesN (r.steps.take ζ.1)) (fun (ζ : (Nat) × (Nat)) => v.s.n - ζ.1) ((0, 0)) (⟨Nat.zero_le _, rfl⟩) Ze Ze rfl tk ?_
     rintro ⟨k, n⟩ hI
     try simp only [List.cons_append, List.nil_append, List.append_assoc, List.append_eq] at hI ⊢
     try dsimp only at hI ⊢
     obtain ⟨hk, hn⟩ := hI
     have hple := pagesN_le (r.steps.take k)
     have htl : (r.steps.take k).length ≤ 2 := by simp; omega
     by_cases hlt : k < v.s.n
     ·obtain ⟨b, off, C, T, fr, e1, hb, hfit, hc⟩ := hA.get (show k < r.steps.length by omega)
      have hx := pagesN_succ r.steps k (by omega)
      generalize r.steps[k]'(by omega) = x at *
      rw [e1]
      unfold stepN at hx
      by_cases h34 : x.kind = 3 ∨ x.kind = 4
      ·rw [if_pos h34] at hx
       rcases h34 with e | e
       all_goals (repeat' (first | refine zV ?_ | intro _))
       all_goals rw [← e1]
       all_goals refine Zg (k + 1, n + 12) (⟨hlt, by dsimp only; omega⟩) Ze Ze rfl tk inferInstance (by first | omega | (dsimp only; omega))
      ·rw [if_neg h34] at hx
       repeat' (first | refine zV ?_ | intro _)
       rw [← e1]
       refine Zg (k + 1, n + 1) (⟨hlt, by dsimp only; omega⟩) Ze Ze rfl tk inferInstance (by first | omega | (dsimp only; omega))
     ·rw [show r.steps.take k = r.steps by rw [show k = r.steps.length by omega, List.take_length]] at hn hple htl
      subst hn
      repeat' (first | (refine Zc (.func 176) ?_; refine qC rfl rfl (hla _) ?_; rintro v ρ' L' hle ⟨hl1, a, c, rfl, hc, hs, rfl⟩ <;> (try simp only [kM, kN, kO])) | (rw [show ((30 : Nat) : Int) + min ((pagesN r.steps : Nat) : Int) 16 * 83 = ((30 + min (pagesN r.steps) 16 * 83 : Nat) : Int) by omega]; refine Zc (.func 175) ?_; refine qC rfl rfl (rsects_spec _ _ (by omega)) ?_; rintro z1 ρ1 L1 hle0 ⟨rfl, rfl, rfl⟩; simp only [List.cons_append, List.nil_append]) | refine zV ?_ | intro _)
      exact qE (L' := []) ⟨hl1, rfl, rfl⟩
    ·rw [if_neg k4]
     repeat' (first | (refine Zc (.func 52) ?_; refine qC rfl rfl (hck) ?_; rintro v ρ' L' hle ⟨rfl, rfl, rfl⟩ <;> (try simp only [kM, kN, kO, if_true])) | refine zV ?_ | intro _)
     exact qE (L' := []) ⟨Hp.le_refl _, rfl, rfl⟩
theorem reserve_ok {r : Rc} (h : ZU r = true) (k : r.kind = 2 ∨ r.kind = 4) : 1 ≤ XZ r ∧ XZ r ≤ 400 := by
 have hF := Xp h
 unfold XZ
 rw [h, if_pos rfl]
 rcases k with k | k
 ·rw [k, if_neg (by decide), if_pos rfl]
  have := recB_le (undR_lay hF.il (fun x hx => (hF.im x hx).2.2))
  unfold sectsB; omega
 ·rw [k, if_neg (by decide), if_neg (by decide), if_pos rfl]
  unfold sectsB; omega
theorem TxG.late {t : TxP} (h : TxG t) {n : Nat} (h1 : t.last ≤ n) (h2 : n ≤ 1099511627776) : TxG { t with last := n } :=
 ⟨h.s1, h.s3, h.f1, h.fu, Nat.le_trans h.ul h1, h2, h.st, h.so, h.ml, h.ms, h.mb, h.mo⟩
theorem TxG.back {t : TxP} (h : TxG t) {to : Nat} (h1 : t.first ≤ to) (h2 : to ≤ t.undo) : TxG (backT t to) := by
 refine ⟨h.s1, h.s3, h.f1, h1, Nat.le_trans h2 h.ul, h.lm, fun s hs => ?_, h.so.filter _, ?_, fun hne => h.ms ?_, fun m hm => ?_, h.mo.filter _⟩
 ·obtain ⟨g1, g2⟩ := List.mem_filter.1 hs
  have := h.st s g1
  simp only [decide_eq_true_eq] at g2
  show t.first < s.lsn ∧ s.lsn ≤ to ∧ _
  omega
 ·have := List.length_filter_le (fun m => decide (m ≤ to)) t.marks
  have := h.ml
  show (t.marks.filter _).length ≤ 8
  omega
 ·intro e
  apply hne
  show t.marks.filter _ = []
  rw [e]; rfl
 ·obtain ⟨g1, g2⟩ := List.mem_filter.1 hm
  have := h.mb m g1
  simp only [decide_eq_true_eq] at g2
  show t.first ≤ m ∧ m ≤ to
  omega
theorem TxG.push {t : TxP} (h : TxG t) {r : Rc} (h1 : t.undo < r.lsn) (h2 : t.last = r.lsn) (h3 : 1 ≤ XZ r ∧ XZ r ≤ 400) : TxG (pushT t r) := by
 have := h.fu
 refine ⟨h.s1, h.s3, h.f1, ?_, Nat.le_of_eq h2.symm, h.lm, fun s hs => ?_, ?_, h.ml, h.ms, fun m hm => ?_, h.mo⟩
 ·show t.first ≤ r.lsn
  omega
 ·show t.first < s.lsn ∧ s.lsn ≤ r.lsn ∧ _
  rcases List.mem_append.1 hs with hs | hs
  ·have := h.st s hs; omega
  ·rw [List.mem_singleton] at hs
   subst hs
   unfold Xw; dsimp only; omega
 ·show (t.stack ++ [Xw r]).Pairwise _
  refine List.pairwise_append.2 ⟨h.so, by simp, fun a ha b hb => ?_⟩
  rw [List.mem_singleton] at hb
  subst hb
  have := h.st a ha
  unfold Xw; dsimp only; omega
 ·have := h.mb m hm
  show t.first ≤ m ∧ m ≤ r.lsn
  omega
theorem TxG.next {t : TxP} {r : Rc} (h : TxG t) (hr : ZU r = true) (hp : r.prev = t.last) (hm : mayT t r = true) (k : 2 ≤ r.kind ∧ r.kind ≤ 7) : TxG (XN t r) := by
 have hF := Xp hr
 have hlm := hF.lsn
 have hpl : t.last < r.lsn ∧ r.lsn ≤ 1099511627776 := by
  unfold ZU at hr
  simp only [Bool.and_eq_true, decide_eq_true_eq] at hr
  have hh := hr.2.1
  unfold headOk at hh
  rw [decide_eq_true_eq] at hh
  omega
 have hl := h.late (n := r.lsn) (by omega) hpl.2
 have hul := h.ul
 unfold mayT at hm
 unfold XN
 by_cases k2 : r.kind = 2
 ·rw [if_pos k2]
  exact hl.push (by dsimp only; omega) rfl (reserve_ok hr (.inl k2))
 ·rw [if_neg k2]
  by_cases k35 : r.kind = 3 ∨ r.kind = 5
  ·rw [if_pos k35]
   have hw : XK t r = true := by
    rcases k35 with e | e
    ·rw [if_pos (.inl e), Bool.and_eq_true] at hm; exact hm.2
    ·rw [if_neg (by omega), if_pos e, Bool.and_eq_true, Bool.and_eq_true] at hm; exact hm.2.1
   unfold XK at hw
   rw [decide_eq_true_eq] at hw
   exact hl.back hw.1 hw.2
  ·rw [if_neg k35]
   by_cases k4 : r.kind = 4
   ·rw [if_pos k4]
    rw [if_pos (.inr k4), Bool.and_eq_true] at hm
    have hw := hm.2
    unfold XK at hw
    rw [decide_eq_true_eq] at hw
    exact (hl.back hw.1 hw.2).push (by show r.next < r.lsn; omega) rfl (reserve_ok hr (.inr k4))
   ·rw [if_neg k4]
    split
    ·exact ⟨by dsimp only; omega, by dsimp only; omega, hl.f1, hl.fu, hl.ul, hl.lm, by simp, by simp, by simp, by simp, by simp, by simp⟩
    ·exact ⟨by dsimp only; omega, by dsimp only; omega, hl.f1, hl.fu, hl.ul, hl.lm, hl.st, hl.so, by simp, by simp, by simp, by simp⟩
theorem RosG.set {p : Xh} (h : RosG p) {i : Nat} (hi : i < p.txns.length) {t : TxP} (ht : t.num = (p.txns[i]).num) (hg : TxG t) : RosG { p with txns := p.txns.set i t } := by
 refine ⟨h.n1, h.n2, by simpa using h.len, fun x hx => ?_, ?_⟩
 ·rcases List.mem_or_eq_of_mem_set hx with hx | rfl
  ·exact h.tx x hx
  ·have := h.tx _ (List.getElem_mem hi)
   exact ⟨by omega, by show x.num < p.next; omega, hg⟩
 ·rw [List.pairwise_iff_getElem]
  intro a b ha hb hab
  simp only [List.length_set] at ha hb
  have := List.pairwise_iff_getElem.1 h.up a b ha hb hab
  dsimp only
  rw [List.getElem_set, List.getElem_set]
  split <;> split <;> first | omega | (subst_vars; omega)
theorem RosG.drop {p : Xh} (h : RosG p) (n : Int) : RosG (dropT p n) :=
 ⟨h.n1, h.n2, Nat.le_trans (List.length_filter_le _ _) h.len, fun x hx => h.tx x (List.mem_filter.1 hx).1, h.up.filter _⟩
theorem takes_ok {p : Xh} {r : Rc} (h : RosG p) (hr : ZU r = true) (he : YI p r = 0) : RosG (Xn p r) := by
 have hk : 1 ≤ r.kind ∧ r.kind ≤ 9 := by
  unfold ZU at hr
  rw [Bool.and_eq_true, decide_eq_true_eq] at hr
  exact hr.1
 unfold YI at he
 unfold Xn
 by_cases k9 : r.kind = 9
 ·rw [if_pos k9]; exact h
 ·rw [if_neg k9] at he ⊢
  by_cases k1 : r.kind = 1
  ·rw [if_pos k1] at he ⊢
   have hl := (Xp hr).lsn
   have hh : 1 ≤ r.lsn ∧ r.lsn ≤ 1099511627776 := by
    unfold ZU at hr
    simp only [Bool.and_eq_true, decide_eq_true_eq] at hr
    have hh := hr.2.1
    unfold headOk at hh
    rw [decide_eq_true_eq] at hh
    omega
   split at he
   ·cases he
   ·rename_i hb
    split at he
    ·cases he
    ·rename_i h8
     have n1 := h.n1
     have n2 := h.n2
     refine ⟨by dsimp only; omega, by dsimp only; omega, by simp only [List.length_append, List.length_singleton]; omega, fun x hx => ?_, ?_⟩
     ·rcases List.mem_append.1 hx with hx | hx
      ·have := h.tx x hx
       exact ⟨this.1, by dsimp only; omega, this.2.2⟩
      ·rw [List.mem_singleton] at hx
       subst hx
       refine ⟨by show 0 < r.txn; omega, by show r.txn < p.next + 1; omega, ⟨by show (1:Int) ≤ 1; omega, by show (1:Int) ≤ 3; omega, hh.1, Nat.le_refl _, Nat.le_refl _, hh.2, by simp [newT], by simp [newT], by simp [newT], by simp [newT], by simp [newT], by simp [newT]⟩⟩
     ·refine List.pairwise_append.2 ⟨h.up, by simp, fun a ha b hb2 => ?_⟩
      rw [List.mem_singleton] at hb2
      subst hb2
      have := h.tx a ha
      show a.num < r.txn
      omega
  ·rw [if_neg k1] at he ⊢
   cases hf : Xg p r.txn with
   | none => rw [hf] at he; cases he
   | some t =>
    rw [hf] at he
    unfold ownE at he
    unfold ownP
    dsimp only at he ⊢
    split at he
    ·cases he
    ·rename_i hpv
     by_cases k8 : r.kind = 8
     ·rw [if_pos k8]; exact h.drop _
     ·rw [if_neg k8] at he ⊢
      split at he
      ·rename_i hm
       obtain ⟨hm1, hm2⟩ := findT_mem hf
       obtain ⟨i, hi, rfl⟩ := List.mem_iff_getElem.1 hm1
       have hn : (XN p.txns[i] r).num = p.txns[i].num := by
        unfold XN
        split
        ·rfl
        ·split
         ·rfl
         ·split
          ·rfl
          ·split <;> rfl
       rw [putT_set h hi hn]
       exact h.set hi hn ((h.tx _ hm1).2.2.next hr (by omega) hm (by omega))
      ·cases he
theorem YU {page : Int} {p : Yq} {r : List Yq} : recP page (p :: r) = if p.page = page then some p else recP page r := by
 unfold recP
 rw [List.find?_cons]
 by_cases h : p.page = page <;> simp [h]
theorem recP_low {l : List Yq} {last page : Int} (h : tblB last l = true) (hp : page ≤ last) : recP page l = none := by
 unfold recP
 rw [List.find?_eq_none]
 intro x hx
 obtain ⟨i, hi, rfl⟩ := List.mem_iff_getElem.1 hx
 have := ((tblB_lt h).1 i hi).1
 simp; omega
theorem recP_page {l : List Yq} {page : Int} {p : Yq} (h : recP page l = some p) : p.page = page := by
 have := List.find?_some h
 simpa using this
theorem tbl_ext : ∀ {l1 l2 : List Yq} {last : Int}, tblB last l1 = true → tblB last l2 = true → (∀ page, recP page l1 = recP page l2) → l1 = l2
 | [], [], _, _, _, _ => rfl
 | [], q :: s, _, _, _, h => by
  have := h q.page
  rw [YU, if_pos rfl] at this
  cases this
 | p :: r, [], _, _, _, h => by
  have := h p.page
  rw [YU, if_pos rfl] at this
  cases this
 | p :: r, q :: s, last, h1, h2, h => by
  rw [tblB, Bool.and_eq_true, decide_eq_true_eq] at h1 h2
  have e1 := h p.page
  have e2 := h q.page
  rw [YU, if_pos rfl, YU] at e1
  rw [YU, YU, if_pos rfl] at e2
  have hpq : p = q := by
   by_cases hp : q.page = p.page
   ·rw [if_pos hp] at e1; exact Option.some.inj e1
   ·rw [if_neg hp] at e1
    rw [if_neg (fun e => hp e.symm)] at e2
    have a1 : q.page < p.page := by
     by_cases hh : q.page < p.page
     ·exact hh
     ·have := recP_low h2.2 (show p.page ≤ q.page by omega); rw [this] at e1; cases e1
    have := recP_low h1.2 (show q.page ≤ p.page by omega)
    rw [this] at e2; cases e2
  subst hpq
  have : r = s := tbl_ext h1.2 h2.2 (fun page => by
   by_cases hp : p.page = page
   ·subst hp
    rw [recP_low h1.2 (Int.le_refl _), recP_low h2.2 (Int.le_refl _)]
   ·have := h page
    rw [YU, if_neg hp, YU, if_neg hp] at this
    exact this)
  rw [this]
theorem recP_add {pg : Int} {lsn : Nat} {page : Int} : ∀ {l : List Yq} {last : Int}, tblB last l = true → recP page (addP pg lsn l) = if (recP page l).isSome then recP page l else if pg = page then some ⟨pg, lsn⟩ else none
 | [], _, _ => by
  rw [addP, YU]
  by_cases h : pg = page <;> simp [h, recP]
 | p :: r, last, h => by
  rw [tblB, Bool.and_eq_true] at h
  rw [addP]
  split
  ·rename_i hlt
   rw [YU, YU]
   by_cases hp : p.page = page
   ·simp [hp]
   ·simp only [if_neg hp]; rw [recP_add h.2]
  ·split
   ·rename_i h1 h2
    rw [YU]
    by_cases hp : p.page = page
    ·rw [if_pos hp]; rfl
    ·rw [if_neg hp]
     have : ¬ pg = page := fun e => hp (by omega)
     rw [if_neg this]
     cases hh : recP page r <;> rfl
   ·rename_i h1 h2
    rw [YU]
    by_cases hp : pg = page
    ·subst hp
     rw [if_pos rfl, if_pos rfl]
     have : recP pg (p :: r) = none := by
      rw [YU, if_neg h2]
      exact recP_low h.2 (by omega)
     rw [this]; rfl
    ·rw [if_neg hp, if_neg hp]
     cases hh : recP page (p :: r) <;> rfl
theorem touchI_tbl {lsn : Nat} (h1 : 1 ≤ lsn) (h2 : lsn ≤ 1099511627776) : ∀ {xs : List Im} {l : List Yq}, (∀ x ∈ xs, Wv x.page = true) → Xs l = true →
  Xs (WM lsn xs l) = true ∧ ∀ page, recP page (WM lsn xs l) = if (recP page l).isSome then recP page l else if (xs.find? (fun x => decide (x.page = page))).isSome then some ⟨page, lsn⟩ else none
 | [], l, _, hl => by
  refine ⟨hl, fun page => ?_⟩
  rw [WM]
  simp only [List.find?_nil, Option.isSome_none, Bool.false_eq_true, if_false]
  cases hh : recP page l <;> rfl
 | x :: r, l, hx, hl => by
  have hpx := hx x (by simp)
  unfold Wv at hpx
  rw [decide_eq_true_eq] at hpx
  have ht : Xs (addP x.page lsn l) = true := addP_tbl hpx.2 h1 h2 (by omega) hl
  obtain ⟨g1, g2⟩ := touchI_tbl h1 h2 (xs := r) (fun y hy => hx y (by simp [hy])) ht
  refine ⟨g1, fun page => ?_⟩
  rw [WM, g2 page, recP_add (last := -1) hl, List.find?_cons]
  cases hh : recP page l with
  | some p => rfl
  | none =>
   simp only [Option.isSome_none, Bool.false_eq_true, if_false]
   by_cases hp : x.page = page
   ·rw [decide_eq_true hp, if_pos hp]; subst hp; rfl
   ·rw [decide_eq_false hp, if_neg hp]; rfl
theorem pgF_rec {g : Int → Option Nat} {page : Int} : ∀ {m : Nat} {p : Int}, recP page (pgF g m p) = if p ≤ page ∧ page < p + m then (g page).map (fun v => ⟨page, v⟩) else none
 | 0, p => by rw [pgF, if_neg (by omega)]; rfl
 | m + 1, p => by
  rw [pgF]
  by_cases hp : p = page
  ·subst hp
   rw [if_pos (by omega)]
   cases hg : g p with
   | some v => simp only [List.cons_append, List.nil_append]; rw [YU, if_pos rfl]; rfl
   | none =>
    simp only [List.nil_append]
    rw [pgF_rec, if_neg (by omega)]; rfl
  ·have hfin : recP page (pgF g m (p + 1)) = if p ≤ page ∧ page < p + ((m + 1 : Nat) : Int) then (g page).map (fun v => ⟨page, v⟩) else none := by
    rw [pgF_rec]
    by_cases h2 : p + 1 ≤ page ∧ page < p + 1 + m
    ·rw [if_pos h2, if_pos (by omega)]
    ·rw [if_neg h2, if_neg (by omega)]
   cases g p with
   | some v => simp only [List.cons_append, List.nil_append]; rw [YU, if_neg hp]; exact hfin
   | none => exact hfin
theorem pgF_tbl {g : Int → Option Nat} : ∀ {m : Nat} {p last : Int}, last < p → p + m ≤ 64 → (∀ q v, g q = some v → 1 ≤ v ∧ v ≤ 1099511627776) → tblB last (pgF g m p) = true
 | 0, _, _, _, _, _ => rfl
 | m + 1, p, last, h1, h2, hg => by
  rw [pgF]
  cases hgp : g p with
  | some v =>
   simp only [List.cons_append, List.nil_append]
   rw [tblB, Bool.and_eq_true, decide_eq_true_eq]
   have := hg p v hgp
   exact ⟨⟨h1, by dsimp only; omega, this⟩, pgF_tbl (by dsimp only; omega) (by omega) hg⟩
  | none =>
   simp only [List.nil_append]
   exact pgF_tbl (by omega) (by omega) hg
theorem recOk_touch {r : Rc} (hok : ZU r = true) : (1 ≤ r.lsn ∧ r.lsn ≤ 1099511627776) ∧ ∀ x ∈ r.ims, Wv x.page = true := by
 unfold ZU at hok
 simp only [Bool.and_eq_true, decide_eq_true_eq] at hok
 obtain ⟨_, hh, ha, hb⟩ := hok
 unfold headOk at hh
 rw [decide_eq_true_eq] at hh
 refine ⟨⟨hh.1, hh.2.1⟩, fun x hx => ?_⟩
 have him : ∃ b, imsOk b r.ims = true := by
  unfold bareOk at hb
  rw [decide_eq_true_eq] at hb
  rcases hb.2.1 with h0 | h2 | h5
  ·rw [h0] at hx; cases hx
  ·unfold askOk at ha; rw [if_pos h2, Bool.and_eq_true] at ha; exact ⟨true, ha.2⟩
  ·unfold askOk at ha
   rw [if_neg (by omega), if_neg (by omega), if_neg (by omega), if_pos h5, Bool.and_eq_true] at ha; exact ⟨false, ha.2⟩
 obtain ⟨b, him⟩ := him
 unfold imsOk upB at him
 rw [Bool.and_eq_true] at him
 obtain ⟨j, hj, rfl⟩ := List.mem_iff_getElem.1 hx
 have := ((XP him.2 (Nat.le_refl _)).2 j hj hj).1
 unfold imOk at this
 rw [Bool.and_eq_true] at this
 exact this.1
theorem recP_fits {l : List Yq} (ht : Xs l = true) {page : Int} {p : Yq} (h : recP page l = some p) : (1 ≤ p.since ∧ p.since ≤ 1099511627776) ∧ (0 ≤ page ∧ page < 64) := by
 have hp := recP_page h
 obtain ⟨i, hi, e⟩ := List.mem_iff_getElem.1 (List.mem_of_find?_eq_some h)
 have := (tblB_lt ht).1 i hi
 rw [e] at this
 exact ⟨this.2.2, by omega⟩
theorem touch_same {l : List Yq} {r : Rc} (ht : Xs l = true) (hr : ZU r = true) : Xs (XW r l) = true ∧ pgF (touchG l r) 64 0 = XW r l := by
 obtain ⟨⟨h1, h2⟩, hpg⟩ := recOk_touch hr
 obtain ⟨g1, g2⟩ := touchI_tbl h1 h2 hpg ht
 refine ⟨g1, ?_⟩
 have hg : ∀ q v, touchG l r q = some v → 1 ≤ v ∧ v ≤ 1099511627776 := fun q v hv => by
  unfold touchG at hv
  split at hv
  ·cases hv
   rename_i h0
   unfold recN at h0 ⊢
   cases hp : recP q l with
   | none => rw [hp] at h0; simp at h0
   | some p => exact (recP_fits ht hp).1
  ·split at hv
   ·cases hv; exact ⟨h1, h2⟩
   ·cases hv
 refine tbl_ext (last := -1) (pgF_tbl (by omega) (by omega) hg) g1 (fun page => ?_)
 show _ = recP page (WM r.lsn r.ims l)
 rw [pgF_rec, g2 page]
 cases hp : recP page l with
 | some p =>
  obtain ⟨f1, f2⟩ := recP_fits ht hp
  have hpp := recP_page hp
  rw [if_pos (by omega)]
  unfold touchG recN
  rw [hp]
  simp only
  rw [if_pos (by omega)]
  simp only [Option.map_some, Option.isSome_some, if_true]
  congr 1
  cases p; simp_all
 | none =>
  simp only [Option.isSome_none, Bool.false_eq_true, if_false]
  by_cases hr2 : 0 ≤ page ∧ page < 64
  ·rw [if_pos (by omega)]
   unfold touchG recN
   rw [hp]
   simp only [Nat.lt_irrefl, if_false]
   split <;> rfl
  ·rw [if_neg (by omega)]
   have : (r.ims.find? (fun x => decide (x.page = page))).isSome = false := by
    rw [Option.isSome_eq_false_iff, Option.isNone_iff_eq_none, List.find?_eq_none]
    intro x hx
    have := hpg x hx
    unfold Wv at this
    rw [decide_eq_true_eq] at this
    simp; omega
   rw [this]; rfl
structure AnP where
 base : Nat
 master : Nat
 fin : Nat
 next : Nat
 ros : Xh
 dirty : List Yq
deriving DecidableEq
def spansB (a : AnP) : Bool := decide (1 ≤ a.base ∧ a.base ≤ a.fin ∧ a.fin ≤ 1099511627776 ∧ a.base ≤ a.next ∧ a.next ≤ a.fin ∧ (a.master = 0 → a.base = 1) ∧ (a.master ≠ 0 → a.base ≤ a.master ∧ a.master < a.fin))
def lateB (n : Nat) (t : TxP) : Bool := decide (n ≤ t.last ∨ 0 < t.marks.length)
def behindB (n : Nat) (p : Yq) : Bool := decide (n ≤ p.since)
def Yc (a : AnP) : Bool := spansB a && (rosOkP a.ros && (Xs a.dirty && (!(a.ros.txns.any (lateB a.next)) && (!(a.dirty.any (behindB a.next)) && decide (a.master < a.next ∨ a.dirty.length = 0)))))
def zeroA : AnP := ⟨0, 0, 0, 0, ⟨0, []⟩, []⟩
def newA (base master fin : Nat) : AnP := ⟨base, master, fin, base, ⟨1, []⟩, []⟩
def ckT (t : TxP) : CkT := ⟨t.num, t.first, t.last, t.undo, t.state⟩
def tkA (a : AnP) (p : Xh) (d : List Yq) (r : Rc) : Option AnP := if YI p r = 0 then some { a with ros := Xn p r, dirty := d } else none
def WJ (a : AnP) (r : Rc) : Option AnP :=
 if a.next = a.master then (if r.kind ≠ 9 ∨ r.nextTxn < a.ros.next ∨ r.txns ≠ a.ros.txns.map ckT then none else some { a with ros := ⟨r.nextTxn, a.ros.txns⟩, dirty := r.dirty })
 else if a.next < a.master then
  (if r.kind = 1 then (if r.txn < a.ros.next then none else tkA a ⟨r.txn, a.ros.txns⟩ a.dirty r)
   else if Xg a.ros r.txn = none then some a else tkA a a.ros a.dirty r)
 else tkA a a.ros (XW r a.dirty) r
def onA (a : AnP) (r : Rc) : Option AnP := match WJ a r with
 | none => none
 | some b => if Yc { b with next := b.next + 1 } then some { b with next := b.next + 1 } else none
def YN (a : AnP) (r : Rc) : Int := if Yc a then (if a.next = a.fin then 2 else if ZU r then (if r.lsn ≠ a.next then 2 else if (onA a r).isSome then 0 else 331) else 220) else 330
def Wb (a : AnP) (r : Rc) : AnP := if YN a r = 0 then (onA a r).getD zeroA else zeroA
theorem rightA_iff {a : AnP} : Yc a = true ↔ (spansB a = true ∧ rosOkP a.ros = true ∧ Xs a.dirty = true ∧ (∀ t ∈ a.ros.txns, t.last < a.next ∧ t.marks = []) ∧ (∀ p ∈ a.dirty, p.since < a.next) ∧ (a.master < a.next ∨ a.dirty.length = 0)) := by
 unfold Yc
 simp only [Bool.and_eq_true, Bool.not_eq_true', List.any_eq_false, decide_eq_true_eq, lateB, behindB]
 constructor
 ·rintro ⟨h1, h2, h3, h4, h5, h6⟩
  refine ⟨h1, h2, h3, fun t ht => ?_, fun p hp => ?_, h6⟩
  ·have := h4 t ht
   exact ⟨by omega, List.eq_nil_of_length_eq_zero (by omega)⟩
  ·have := h5 p hp; omega
 ·rintro ⟨h1, h2, h3, h4, h5, h6⟩
  refine ⟨h1, h2, h3, fun t ht => ?_, fun p hp => ?_, h6⟩
  ·obtain ⟨g1, g2⟩ := h4 t ht
   rw [g2]; simp; omega
  ·have := h5 p hp; omega
theorem RosG.more {n : Int} {p : Xh} (h : RosG p) (h1 : p.next ≤ n) (h2 : n ≤ 1073741824) : RosG ⟨n, p.txns⟩ :=
 ⟨by have := h.n1; show 1 ≤ n; omega, h2, h.len, fun t ht => by obtain ⟨g1, g2, g3⟩ := h.tx t ht; exact ⟨g1, by show t.num < n; omega, g3⟩, h.up⟩
theorem cell_atQ {C : List Value} {i sz : Nat} {l : List Value} (h : (C.drop i).take sz = l) {d : Nat} {v : Value} (hd : l[d]? = some v) : C[i + d]? = some v := by
 have h1 : d < sz := by
  have := (List.getElem?_eq_some_iff.1 hd).1
  rw [← h, List.length_take] at this
  omega
 rw [← h, List.getElem?_take_of_lt h1, List.getElem?_drop] at hd
 exact hd
theorem tblB_len : ∀ {l : List Yq} {last : Int}, last ≤ 63 → tblB last l = true → (l.length : Int) + last ≤ 63
 | [], last, h, _ => by simp; omega
 | p :: r, last, h, ht => by
  rw [tblB, Bool.and_eq_true, decide_eq_true_eq] at ht
  have := tblB_len (l := r) (last := p.page) (by omega) ht.2
  simp only [List.length_cons]; omega
end Go.Proofs.E
