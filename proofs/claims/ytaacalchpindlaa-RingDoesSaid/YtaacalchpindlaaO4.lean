/- The law RingDoes. Part 4 of 17. -/
import Derived.Test.YtaacalchpindlaaO3
import Derived.Lib.Overlaps
import Derived.Laws.Externs
import Derived.Test.YtaacalchpindlaaChecked
import Derived.KernelRfl
namespace Go.Proofs.E
open Go Go.RowKit
set_option linter.unusedVariables false
set_option linter.unusedSimpArgs false
set_option linter.unusedSectionVars false
set_option maxRecDepth 8000
def reachB (l : List Oper) : Nat → Nat → Nat → Bool
 | 0, _, _ => false
 | f + 1, i, k => ((l[i]?).map fun o => o.after.any fun e => Region.binds .any e && (e.on == k || reachB l f e.on k)).getD false
def guardB (c : Nat) (o : Oper) : Bool := match o.guard with | none => true | some (j, _) => decide (j < c)
def cutB (l : List Oper) (c : Nat) : Bool :=
 decide (c ≤ l.length) && (List.range l.length).all fun i =>
  if i < c then ((l[i]?).map fun o => o.after.all (fun e => !Region.binds .any e || decide (e.on < i)) && guardB c o).getD false
  else (List.range c).all fun k => reachB l 12 i k
def ClosedL (l : List Oper) (m : List Bool) : Prop := ∀ (j : Nat) (o : Oper), l[j]? = some o → m[j]? = some true → ∀ e ∈ o.after, Region.binds .any e = true → m[e.on]? = some true
theorem reach_ok {l : List Oper} {m : List Bool} (hc : ClosedL l m) : ∀ (f i k : Nat) (o : Oper), l[i]? = some o → (∀ e ∈ o.after, Region.binds .any e = true → m[e.on]? = some true) → reachB l f i k = true → m[k]? = some true
 | 0, _, _, _, _, _, h => by simp [reachB] at h
 | f + 1, i, k, o, ho, he, h => by
  simp only [reachB, ho, Option.map_some, Option.getD_some, Array.any_eq_true] at h
  obtain ⟨x, hx, h⟩ := h
  simp only [Bool.and_eq_true, Bool.or_eq_true, beq_iff_eq] at h
  have h1 := he _ (Array.getElem_mem hx) h.1
  rcases h.2 with h2 | h2
  ·rw [← h2]; exact h1
  ·cases ho2 : l[(o.after[x]).on]? with
   | none =>
    cases f with
    | zero => simp [reachB] at h2
    | succ f => simp [reachB, ho2] at h2
   | some o2 => exact reach_ok hc f _ k o2 ho2 (hc _ o2 ho2 h1) h2
theorem wpOpIn_cut {ro : Option Nat} {P : Program} {l : List Oper} {c i : Nat} {Q Q1 : Exit → Act → World → Prop} {K K' : Act → World → Prop} {a : Act} {w : World} (hi : i < c) (hg : ∀ o, l[i]? = some o → guardB c o = true) (hk : ∀ a w, K a w → K' a w)
  (h : wpOpIn (Fw ro) 0 P (l.take c).toArray (QN Q1) i K a w) : wpOpIn (Fw ro) 0 P l.toArray (QN Q) i K' a w := by
 unfold wpOpIn at h ⊢
 simp only [List.getElem?_toArray] at h ⊢
 rw [List.getElem?_take_of_lt hi] at h
 cases ho : l[i]? with
 | none => rw [ho] at h; exact hk _ _ h
 | some o =>
  rw [ho] at h
  simp only at h ⊢
  have hgo := hg o ho
  have hy : Region.wanted o (yielded (l.take c).toArray a.tmps) = Region.wanted o (yielded l.toArray a.tmps) := by
   unfold Region.wanted
   unfold guardB at hgo
   cases hgd : o.guard with
   | none => rfl
   | some jb =>
    obtain ⟨j, b⟩ := jb
    rw [hgd] at hgo
    simp only [decide_eq_true_eq] at hgo
    simp only [yielded, List.getElem?_toArray, List.getElem?_take_of_lt hgo]
  rw [hy] at h
  by_cases hw : Region.wanted o (yielded l.toArray a.tmps) = true
  ·simp only [hw, if_true] at h ⊢
   unfold Oper.wpIn at h ⊢
   refine ⟨h.1, ?_⟩
   have h2 := h.2
   generalize (o.semAt (Fw ro).round a.eval).run P w = r at *
   cases r with
   | ok n w' =>
    cases n <;> simp only [Oper.uponIn] at h2 ⊢ <;>
    first
     | exact hk _ _ h2
     | exact ⟨h2.1, CallsIn.mono h2.2 (fun e w'' he => by cases e <;> first | exact hk _ _ he | exact he.elim | exact (let ⟨_, _, q⟩ := he; q.elim))⟩
     | exact ⟨h2.1, RowsIn.mono h2.2 (fun _ _ he => hk _ _ he)⟩
     | exact ⟨h2.1, RoundIn.mono h2.2 (fun e w'' he => by cases e <;> first | exact hk _ _ he | exact he.elim | exact (let ⟨_, _, q⟩ := he; q.elim))⟩
   | halt x w' => cases x <;> simp only [Oper.uponIn] at h2 ⊢ <;> first | exact h2 | exact h2.elim
  ·simp only [hw] at h ⊢
   exact ⟨h.1, hk _ _ h.2⟩
theorem any_cut {ro : Option Nat} {P : Program} {l : List Oper} {c : Nat} {Q : Exit → Act → World → Prop} (hcut : cutB l c = true) :
  ∀ (fuel : Nat) (m : List Bool) (a : Act) (w : World), m.length = c → ClosedL l m → List.count false m = fuel →
   wpAnyIn (Fw ro) 0 P .any (l.take c).toArray (QN fun e a w => wpAnyIn (Fw ro) 0 P .any l.toArray (QN Q) (l.length - c) ⟨List.replicate c true ++ List.replicate (l.length - c) false⟩ a w) fuel ⟨m⟩ a w →
   wpAnyIn (Fw ro) 0 P .any l.toArray (QN Q) (fuel + (l.length - c)) ⟨m ++ List.replicate (l.length - c) false⟩ a w := by
 simp only [cutB, Bool.and_eq_true, decide_eq_true_eq, List.all_eq_true, List.mem_range] at hcut
 obtain ⟨hcl, hall⟩ := hcut
 intro fuel
 induction fuel with
 | zero =>
  intro m a w hm _ h0 H
  have hmt : m = List.replicate c true := by
   rw [List.eq_replicate_iff]
   refine ⟨hm, fun b hb => ?_⟩
   cases b with
   | true => rfl
   | false => exact absurd hb (List.count_eq_zero.1 h0)
  rw [Nat.zero_add, hmt]
  exact H.2
 | succ fuel ih =>
  intro m a w hm hcd h0 H
  have hA : fuel + 1 + (l.length - c) = (fuel + (l.length - c)) + 1 := by omega
  rw [hA]
  have hget : ∀ j, j < c → (m ++ List.replicate (l.length - c) false)[j]? = m[j]? := fun j hj => List.getElem?_append_left (by omega)
  have hge : ∀ j, c ≤ j → (m ++ List.replicate (l.length - c) false)[j]? ≠ some true := fun j hj h => by
   rw [List.getElem?_append_right (by omega)] at h
   rw [List.getElem?_replicate] at h
   split at h <;> simp at h
  have hlt : ∀ j, (m ++ List.replicate (l.length - c) false)[j]? = some true → m[j]? = some true := fun j h => by
   by_cases hj : j < c
   ·rw [hget j hj] at h; exact h
   ·exact absurd h (hge j (by omega))
  have hrd : ∀ i, i ∈ Region.ready .any l.toArray ⟨m ++ List.replicate (l.length - c) false⟩ → i < c ∧ m[i]? = some false ∧ i ∈ Region.ready .any (l.take c).toArray ⟨m⟩ ∧ ∃ o, l[i]? = some o ∧ ∀ e ∈ o.after, Region.binds .any e = true → m[e.on]? = some true := fun i hi => by
   obtain ⟨h1, o, ho, he⟩ := mem_ready.1 hi
   simp only [List.getElem?_toArray] at ho
   have he' : ∀ e ∈ o.after, Region.binds .any e = true → m[e.on]? = some true := fun e h2 h3 => by
    have := he e h2 h3
    apply hlt
    simp only [Array.getD_eq_getD_getElem?, List.getElem?_toArray] at this
    cases hq : (m ++ List.replicate (l.length - c) false)[e.on]? with
    | none => rw [hq] at this; simp at this
    | some b => rw [hq] at this; simp at this; rw [this]
   have hil : i < l.length := by
    rcases Nat.lt_or_ge i l.length with h | h
    ·exact h
    ·rw [List.getElem?_eq_none h] at ho; cases ho
   have hic : i < c := by
    rcases Nat.lt_or_ge i c with h | h
    ·exact h
    ·exfalso
     have hr := hall i hil
     rw [if_neg (by omega)] at hr
     simp only [List.all_eq_true, List.mem_range] at hr
     have hno : false ∉ m := fun hf => by
      obtain ⟨k, hk, hkf⟩ := List.getElem_of_mem hf
      have := reach_ok hcd 12 i k o ho he' (hr k (by omega))
      rw [List.getElem?_eq_getElem hk, hkf] at this
      cases this
     have := List.count_eq_zero.2 hno
     omega
   have hmi : m[i]? = some false := by
    simp only [Array.getD_eq_getD_getElem?, List.getElem?_toArray, hget i hic] at h1
    rw [List.getElem?_eq_getElem (show i < m.length by omega)] at h1 ⊢
    simpa using h1
   refine ⟨hic, hmi, mem_ready.2 ⟨by simp [Array.getD_eq_getD_getElem?, hmi], o, by simp [List.getElem?_take_of_lt hic, ho], fun e h2 h3 => by simp [Array.getD_eq_getD_getElem?, he' e h2 h3]⟩, o, ho, he'⟩
  refine ⟨fun hnil => ?_, fun i hi => ?_⟩
  ·exfalso
   have hmem : false ∈ m := by
    rcases Classical.em (false ∈ m) with h | h
    ·exact h
    ·have := List.count_eq_zero.2 h; omega
   have hex : ∃ k : Nat, m[k]? = some false ∧ ∀ j : Nat, j < k → m[j]? = some true := by
    have key : ∀ (m : List Bool), false ∈ m → ∃ k : Nat, m[k]? = some false ∧ ∀ j : Nat, j < k → m[j]? = some true := by
     intro m
     induction m with
     | nil => intro h; cases h
     | cons b r ih2 =>
      intro h
      cases b with
      | false => exact ⟨0, rfl, fun j hj => by omega⟩
      | true =>
       obtain ⟨k, h1, h2⟩ := ih2 (by simpa using h)
       refine ⟨k + 1, by simpa using h1, fun j hj => ?_⟩
       cases j with
       | zero => rfl
       | succ j => simpa using h2 j (by omega)
    exact key m hmem
   obtain ⟨k, hk, hlow⟩ := hex
   have hkc : k < c := by
    rcases Nat.lt_or_ge k m.length with h | h
    ·omega
    ·rw [List.getElem?_eq_none h] at hk; cases hk
   have hr := hall k (by omega)
   rw [if_pos hkc] at hr
   have hko : l[k]? = some l[k] := List.getElem?_eq_getElem (by omega)
   rw [hko] at hr
   simp only [Option.map_some, Option.getD_some, Bool.and_eq_true, Array.all_eq_true_iff_forall_mem, Bool.or_eq_true, Bool.not_eq_true', decide_eq_true_eq] at hr
   have : k ∈ Region.ready .any l.toArray ⟨m ++ List.replicate (l.length - c) false⟩ := by
    refine mem_ready.2 ⟨by simp [Array.getD_eq_getD_getElem?, hget k hkc, hk], l[k], by simp [hko], fun e h2 h3 => ?_⟩
    have hlt2 : e.on < k := by
     rcases hr.1 e h2 with h | h
     ·rw [h] at h3; cases h3
     ·exact h
    simp [Array.getD_eq_getD_getElem?, hget e.on (by omega), hlow e.on hlt2]
   rw [hnil] at this
   cases this
  ·obtain ⟨hic, hmi, hi1, o, ho, he⟩ := hrd i hi
   have hr := hall i (by omega)
   rw [if_pos hic, ho] at hr
   simp only [Option.map_some, Option.getD_some, Bool.and_eq_true] at hr
   refine wpOpIn_cut hic (fun o' ho' => by rw [ho] at ho'; cases ho'; exact hr.2) (fun a' w' h' => ?_) (H.2 i hi1)
   have hs1 : (⟨m⟩ : Array Bool).setIfInBounds i true = ⟨m.set i true⟩ := by simp
   have hs2 : (⟨m ++ List.replicate (l.length - c) false⟩ : Array Bool).setIfInBounds i true = ⟨m.set i true ++ List.replicate (l.length - c) false⟩ := by
    simp [List.set_append_left _ _ (show i < m.length by omega)]
   rw [hs1] at h'
   rw [hs2]
   refine ih (m.set i true) a' w' (by simpa using hm) (fun j oj hoj hj e h2 h3 => ?_) ?_ h'
   ·have hself : ∀ q, m[q]? = some true → (m.set i true)[q]? = some true := fun q hq => by
     rw [List.getElem?_set]
     split
     ·rename_i h; subst h; rw [hmi] at hq; cases hq
     ·exact hq
    by_cases hji : j = i
    ·subst hji
     rw [ho] at hoj; cases hoj
     exact hself _ (he e h2 h3)
    ·rw [List.getElem?_set_ne (fun h => hji h.symm)] at hj
     exact hself _ (hcd j oj hoj hj e h2 h3)
   ·have hlt3 : i < m.length := by omega
    have hmi2 : m[i] = false := by rw [List.getElem?_eq_getElem hlt3] at hmi; simpa using hmi
    rw [List.count_set (h := hlt3)]
    simp [hmi2]
    omega
section
variable {x : Cx} {Q : Exit → Act → World → Prop} {E : Env} {ρ : Hp} {L : SH} {l : List Oper}
def QPh (x : Cx) (l : List Oper) (c : Nat) (Q : Exit → Act → World → Prop) : Exit → Act → World → Prop :=
 fun _ a w => wpAnyIn (Fw x.ro) 0 x.P .any l.toArray (QN Q) (l.length - c) ⟨List.replicate c true ++ List.replicate (l.length - c) false⟩ a w
theorem tc_phase {id : Nat} (c : Nat) (S : World → Prop) [hm : Mixed x.P] (hcut : cutB l c = true) (hS : ∀ w, Sat x.u ρ L w → S w) (h : TR x (l.take c) S c (List.replicate c false) (QPh x l c Q) E ρ L) : TC x (.region id l.toArray true) Q E ρ L := fun a w ha hw => by
 refine wpIn_mono (Q := QN Q) ?_ (fun e a w q => by cases e <;> first | exact q | exact q.elim)
 refine wpIn_region_any hm.out ?_
 have h1 := h a _ ha hw.drew (hS _ hw.drew)
 have h2 := wpAnyIn_of_G _ _ _ _ h1
 have hcl : c ≤ l.length := by
  simp only [cutB, Bool.and_eq_true, decide_eq_true_eq] at hcut
  exact hcut.1
 have h3 := any_cut (Q := Q) hcut c (List.replicate c false) a _ (by simp) (fun j o _ hj => by
  rw [List.getElem?_replicate] at hj
  split at hj <;> simp at hj) (by simp) h2
 have e1 : c + (l.length - c) = l.length := by omega
 rw [e1, List.replicate_append_replicate, e1] at h3
 simpa using h3
theorem te_phase {c fuel : Nat} {m : List Bool} (S : World → Prop) (hf : l.length - c = fuel) (hm : List.replicate c true ++ List.replicate fuel false = m) (hS : ∀ w, Sat x.u ρ L w → S w) (h : TR x l S fuel m Q E ρ L) : TE x .normal (QPh x l c Q) E ρ L := fun a w ha hw => by
 subst hf
 subst hm
 exact wpAnyIn_of_G _ _ _ _ (h a w ha hw (hS w hw))
end
end Go.Proofs.E
namespace Go.Proofs.E
open Go Go.RowKit Go.WideShapes
set_option linter.unusedVariables false
set_option linter.unusedSimpArgs false
section
variable {H : Type} {enc : TypeId × Value → H} {P : Program} {w : World}
def OpnS (enc : TypeId × Value → H) (P : Program) (w : World) (t : TypeId) {α : Type} (R : List Value → α → Prop) : Prop :=
 ∀ fuel cs x, DataW.trod enc P w 0 (fun _ => true) true fuel t cs = some x → (∀ n ∈ x.1.weights P t, n ≤ reachBytes) → ∃ a, R cs a
theorem OpnS.mono {t : TypeId} {α β : Type} {R : List Value → α → Prop} {R' : List Value → β → Prop} (h : OpnS enc P w t R) (k : ∀ cs a, R cs a → ∃ b, R' cs b) : OpnS enc P w t R' := fun f cs x hx hw => by
 obtain ⟨a, ha⟩ := h f cs x hx hw
 exact k cs a ha
end
end Go.Proofs.E
namespace Go.Proofs.E
open Go
set_option linter.unusedVariables false
attribute [local irreducible] Yl TL TC TE Spec Xt R1 Hp.le EnvLe TS TR YS Zo
section
variable {x : Cx} {E : Env} {ρ ρ0 : Hp} {L : SH} {v : Value}
end
class SetN (l : List Value) (off n : Nat) (vs : List Value) (l' : outParam (List Value)) : Prop where
 len : vs.length = n
 fit : off + n ≤ l.length
 out : stc l off vs = l'
instance SetN.nil {l : List Value} : SetN l 0 0 [] l := ⟨rfl, by simp, by simp [stc]⟩
instance SetN.cons {a v : Value} {r vs r' : List Value} {n : Nat} [h : SetN r 0 n vs r'] : SetN (a :: r) 0 (n + 1) (v :: vs) (v :: r') := ⟨by
 have := h.len; simp [this], by have := h.fit; simp at this ⊢; omega, by
 have := h.out
 simp only [stc, List.take_zero, List.nil_append, Nat.zero_add, List.length_cons, List.drop_succ_cons, List.cons_append] at this ⊢
 rw [this]⟩
instance SetN.drop {a : Value} {r vs r' : List Value} {o n : Nat} [h : SetN r o n vs r'] : SetN (a :: r) (o + 1) n vs (a :: r') := ⟨h.len, by
 have := h.fit; simp only [List.length_cons]; omega, by
 have := h.out
 simp only [stc, List.take_succ_cons, List.cons_append] at this ⊢
 rw [show o + 1 + vs.length = (o + vs.length) + 1 by omega, List.drop_succ_cons, this]⟩
class GetQ (pl : List (Nat × Nat)) (i : Nat) (off n : outParam Nat) : Prop where
 out : pl[i]? = some (off, n)
instance GetQ.zero {off n : Nat} {r : List (Nat × Nat)} : GetQ ((off, n) :: r) 0 off n := ⟨rfl⟩
instance GetQ.succ {p : Nat × Nat} {r : List (Nat × Nat)} {i off n : Nat} [h : GetQ r i off n] : GetQ (p :: r) (i + 1) off n := ⟨by simpa using h.out⟩
class CellsL (v : Value) (l : outParam (List Value)) : Prop where
 out : v.cells = ⟨l⟩
instance {l : List Value} : CellsL (.agg ⟨l⟩) l := ⟨rfl⟩
instance {k : IntKind} {n : Int} : CellsL (.int k n) [.int k n] := ⟨rfl⟩
instance {b : Bool} : CellsL (.bool b) [.bool b] := ⟨rfl⟩
instance {s : ByteArray} : CellsL (.string s) [.string s] := ⟨rfl⟩
instance {a : Option Addr} : CellsL (.pointer a) [.pointer a] := ⟨rfl⟩
instance {a : Option Addr} {n c : Nat} : CellsL (.slice a n c) [.slice a n c] := ⟨rfl⟩
instance {m : Option Nat} : CellsL (.map m) [.map m] := ⟨rfl⟩
class BuildM (pl : List (Nat × Nat)) (cells : List Value) (ps : List (Nat × Operand)) (vs : List Value) (out : outParam (List Value)) : Prop where
 out : Instr.fill (pl[·]?) ⟨cells⟩ ((ps.map (·.1)).zip vs) = some ⟨out⟩
instance BuildM.nil {pl : List (Nat × Nat)} {cells : List Value} : BuildM pl cells [] [] cells := ⟨rfl⟩
instance BuildM.cons {pl : List (Nat × Nat)} {cells cells' out : List Value} {i off n : Nat} {o : Operand} {ps : List (Nat × Operand)} {v : Value} {l vs : List Value} [h1 : GetQ pl i off n] [h0 : CellsL v l] [h2 : SetN cells off n l cells'] [h3 : BuildM pl cells' ps vs out] : BuildM pl cells ((i, o) :: ps) (v :: vs) out := ⟨by
 simp only [List.map_cons, List.zip_cons_cons]
 rw [fill_cons (pl := (pl[·]?)) h1.out h0.out h2.len h2.fit, h2.out]
 exact h3.out⟩
theorem Zc {x : Cx} {E : Env} {ρ : Hp} {L : SH} {ty : TypeId} {t : Nat} {pl : List (Nat × Nat)} {z out : List Value} {ps : List (Nat × Operand)} {vs : List Value} [hP : Yf x.P t (pl[·]?)] [hz : ZD x.P t (.agg ⟨z⟩)] (hv : evs E (ps.map (·.2)) = some vs) [hB : BuildM pl z ps vs out] :
  Yl x (.build t ⟨ps⟩) ty E ρ L (.agg ⟨out⟩) := y_build hv hB.out
end Go.Proofs.E
namespace Go.Proofs.E
open Go
set_option linter.unusedVariables false
set_option linter.unusedSimpArgs false
section
variable {x : Cx} {Q : Exit → Act → World → Prop} {E : Env} {ρ : Hp} {L : SH} {ops : Array Oper} {rest : List Oper} {ty : TypeId} {pos : String} {af : Array Edge}
theorem tl_eff {d b : Nat} {op : Op} {o o' : Obj} {v : Value} {f : Obj → SH} [hU : Upd b L o f]
  (hr : ∀ a w, Ok x.D x.N E a → Sat x.u ρ L w → w.heap[b]? = some o → (execOp a.eval ⟨some d, op, ty, pos, af, none⟩).run x.P w = .ok (.value v) (putB w b o'))
  (hd : Nat.blt d x.N = true) (hn : YM op = true) (k : TL x ops rest Q ((d, v) :: E) ρ (f o')) : TL x ops (⟨some d, op, ty, pos, af, none⟩ :: rest) Q E ρ L := fun a w ha hw => by
 refine Yc rfl hn ?_
 obtain ⟨hw2, hb⟩ := hw.upd hU o'
 rw [hr a w ha hw hb]
 exact k _ _ (ha.put (Nat.le_of_ble_eq_true hd) _) hw2
theorem run_storeCells_stc {P : Program} {w : World} {b o : Nat} {T : TypeId} {l ys : List Value} (hb : w.heap[b]? = some (.cells ⟨l⟩ T (0, 0))) (hfit : o + ys.length ≤ l.length) (h1 : ys.all (·.oneCell') = true) :
  (storeCells ⟨b, o, none⟩ ys).run P w = .ok () (putB w b (.cells ⟨stc l o ys⟩ T (0, 0))) := by
 have hst := run_storeCells_at P b o T ys 0 ⟨l⟩ w hb (by simpa using hfit) (fun c hc => List.all_eq_true.1 h1 c hc)
 rw [setRow_eq hb] at hst
 simp only [Nat.add_zero] at hst
 exact hst
theorem run_append_grow_zeros {P : Program} (w : World) (t tn ty e : TypeId) (i : TypeInfo) (z : Value) (k kn : IntKind) (ht : P.underlying t = some (.slice e)) (htn : P.underlying tn = some (.int kn)) (hi : P.info? e = some i) (hz : i.zero = some z)
  (b : Addr) (sLen sCap : Nat) (olds : List Value) (hlo : olds.length = sLen * i.size) (holds : ∀ j v, olds[j]? = some v → w.cell? (b.add j) = some v)
  (n : Nat) (h0 : 0 < n) (hs : 0 < i.size) (hg : sCap < sLen + n) (h63 : ((sLen + n : Nat) : Int) ≤ 9223372036854775807) (hfit : Builtin.nextslicecap (sLen + n) sCap * i.bytes ≤ 281474976710656) (h48 : n * i.bytes ≤ 281474976710656) :
  (Builtin.append_ #[t, tn] ty #[.slice (some b) sLen sCap, .int k n]).run P w =
   .ok (.slice (some ⟨w.heap.size, 0, none⟩) (sLen + n) (grownCap w (sLen + n) sCap e))
    (w.drew.alloc (.cells (olds.toArray ++ Builtin.zeroCells z.cells n ++ Builtin.zeroCells z.cells (grownCap w (sLen + n) sCap e - (sLen + n))) e)) := by
 have hn : ¬ (sLen + n ≤ sCap) := by omega
 have hw : IntKind.i64.wrap (n : Int) = n := by rw [IntKind.wrap_i64]; omega
 have h63' : ¬ (9223372036854775807 < ((sLen : Int) + (n : Int))) := by omega
 have h48' : ¬ (281474976710656 < Builtin.nextslicecap (sLen + n) sCap * i.bytes) := by omega
 have h48i : ¬ (281474976710656 < (n : Int) * (i.bytes : Int)) := by rw [← Int.natCast_mul]; omega
 have hneg : ¬ ((n : Int) < 0) := by omega
 have hns : ¬ (n * i.size = 0) := Nat.mul_ne_zero (by omega) (by omega)
 have hn0 : n ≠ 0 := by omega
 have hfo := run_firstCells_some (P := P) w.drew i.size sLen b sLen sCap olds hlo (by simpa using holds)
 simp [Builtin.append_, run_underlying ht, run_underlying htn, sizeOf, typeInfo, zeroValue, hi, hz, asInt, asIntOf, hw, hn, hn0, hneg, hns, h63', h48', h48i, Question.forced, hfo, newRow, grownCap]
end
end Go.Proofs.E
namespace Go.Proofs.E
open Go
set_option linter.unusedVariables false
theorem Spec.thaw {P : Program} {f : FuncId} {args : List Value} {ρ : Hp} {C L : SH} {Post : Value → SH → Prop} (h : ∀ ρ1, ρ.le ρ1 → (∀ p ∈ C.flatten, ρ1 p.1 = some p.2) → Spec P f args ρ1 L (fun v ρ' L' => ρ' = ρ1 ∧ Post v L')) :
  Spec P f args ρ (C ++ L) (fun v ρ' L' => ρ' = ρ ∧ ∃ L2, Post v L2 ∧ L' = C ++ L2) := fun u R w hw => by
 have hw1 : Sat u ρ (C.flatten :: (L ++ R)) w := hw.perm (by simp)
 obtain ⟨h1, hle, hf⟩ := hw1.freeze
 have hap : ∀ p ∈ C.flatten, ρ p.1 = none := fun p hp => hw1.apart p (by simp only [List.flatten_cons, List.mem_append]; exact .inl hp)
 have hnd := hw1.nodup
 simp only [List.flatten_cons, List.map_append, List.nodup_append] at hnd
 refine (h _ hle hf u R w h1).mono ?_
 rintro e w' ⟨v, ρ', L', h2, h3, h4, rfl, h5⟩
 refine ⟨v, ρ, C ++ L', h2, Hp.le_refl _, ?_, rfl, L', h5, rfl⟩
 have hne : ∀ p ∈ (L' ++ R).flatten, ∀ q ∈ C.flatten, p.1 ≠ q.1 := fun p hp q hq e => by
  have a1 := h4.apart p hp
  rw [e, hf q hq] at a1
  cases a1
 have key : Sat u ρ (C.flatten :: (L' ++ R)) w' := by
  refine ⟨h4.os, h4.tape, h4.output, ?_, ?_, ?_, fun b o hb => h4.imm b o (hle b o hb)⟩
  ·simp only [List.flatten_cons, List.map_append, List.nodup_append]
   refine ⟨hnd.1, ?_, ?_⟩
   ·have := h4.nodup
    simpa [List.nodup_append] using this
   ·intro a ha b hb e
    obtain ⟨q, hq, rfl⟩ := List.mem_map.1 ha
    obtain ⟨p, hp, rfl⟩ := List.mem_map.1 (by simpa using hb : b ∈ List.map Prod.fst (L' ++ R).flatten)
    exact hne p hp q hq e.symm
  ·intro p hp
   simp only [List.flatten_cons, List.mem_append] at hp
   rcases hp with hp | hp
   ·exact h4.imm _ _ (hf p hp)
   ·exact h4.here p (by simpa using hp)
  ·intro p hp
   simp only [List.flatten_cons, List.mem_append] at hp
   rcases hp with hp | hp
   ·exact hap p hp
   ·have a1 := h4.apart p (by simpa using hp)
    cases hx : ρ p.1 with
    | none => rfl
    | some o => rw [hle _ _ hx] at a1; cases a1
 exact key.perm (by simp)
end Go.Proofs.E
namespace Go.Proofs.E
open Go Go.Lib
set_option linter.unusedVariables false
set_option linter.unusedSimpArgs false
set_option linter.unusedSectionVars false
section
variable {x : Cx} {Q : Exit → Act → World → Prop} {E : Env} {ρ : Hp} {L L1 : SH} {ops : Array Oper} {rest : List Oper} {ty : TypeId} {pos : String} {af : Array Edge}
theorem GetL.get {l : List Value} {d : Nat} {v : Value} (h : GetL l d v) : l[d]? = some v := h.out
theorem TE.perm {e : Exit} {L' : SH} (h : TE x e Q E ρ L') (hL : L.flatten.Perm L'.flatten) : TE x e Q E ρ L := fun a w ha hw => h a w ha (hw.perm hL)
theorem TE.sub {e : Exit} {L' : SH} (h : TE x e Q E ρ L') (hL : List.Sublist L'.flatten L.flatten) : TE x e Q E ρ L := fun a w ha hw => h a w ha (hw.sub hL)
theorem TC.sub {c : Code} {L' : SH} (h : TC x c Q E ρ L') (hL : List.Sublist L'.flatten L.flatten) : TC x c Q E ρ L := fun a w ha hw => h a w ha (hw.sub hL)
theorem TL.sub {l : List Oper} {L' : SH} (h : TL x ops l Q E ρ L') (hL : List.Sublist L'.flatten L.flatten) : TL x ops l Q E ρ L := fun a w ha hw => h a w ha (hw.sub hL)
end
theorem Hp.up {ρ ρ' : Hp} (h : ρ.le ρ') {b : Nat} {o : Obj} (hb : ρ b = some o) : ρ' b = some o := h _ _ hb
section
variable {x : Cx} {Q : Exit → Act → World → Prop} {E : Env} {ρ : Hp} {L : SH} {ops : Array Oper} {rest : List Oper} {ty : TypeId} {pos : String} {af : Array Edge}
end
theorem Spec.freeze {P : Program} {f : FuncId} {args : List Value} {ρ : Hp} {L : SH} {Post : Value → Hp → SH → Prop} {Post2 : Value → Hp → Prop} (h : Spec P f args ρ L Post)
  (k : ∀ v ρ' L', ρ.le ρ' → Post v ρ' L' → ∀ ρ2, ρ'.le ρ2 → (∀ p ∈ L'.flatten, ρ2 p.1 = some p.2) → Post2 v ρ2) : Spec P f args ρ L (fun v ρ2 L2 => Post2 v ρ2 ∧ L2 = []) := fun u R w hw => by
 refine (h u R w hw).mono ?_
 rintro e w' ⟨v, ρ', L', h2, h3, h4, h5⟩
 have h6 : Sat u ρ' (L'.flatten :: R) w' := h4.perm (by simp)
 obtain ⟨h7, hle, hf⟩ := h6.freeze
 exact ⟨v, _, [], h2, Hp.le_trans h3 hle, h7, k v ρ' L' h3 h5 _ hle hf, rfl⟩
section
variable {x : Cx} {Q : Exit → Act → World → Prop} {E : Env} {ρ : Hp} {L L1 L2 : SH} {ops : Array Oper} {l : List Oper} {c d : List (Nat × Obj)} {e : Exit} {y : Code}
end
instance (priority := 1100) eqC_four {P : Program} {m t e : Nat} {k : IntKind} [hA : TyArr P t 4 e] [hE : YC P e k] [hS : TyS P e] {a b c d a' b' c' d' : Int} :
  EqC P (m + 2) t (.agg ⟨[.int k a, .int k b, .int k c, .int k d]⟩) (.agg ⟨[.int k a', .int k b', .int k c', .int k d']⟩) (decide (a = a' ∧ b = b' ∧ c = c' ∧ d = d')) := ⟨fun dd w hdd => by
 obtain ⟨dd, rfl⟩ : ∃ d', dd = d' + 2 := ⟨dd - 2, by omega⟩
 obtain ⟨ds, i, g1, g2, g3, g4⟩ := hS.out
 have hag : ∀ w, (isAgg e).run P w = .ok false w := fun w => by
  simp only [isAgg, underlying, Sem.run_bind, run_program, Result.andThen_ok, g1, Sem.run_pure]
  cases ds <;> simp_all
 have hcl : P.cellsOf e = 1 := by simp [Program.cellsOf, g3, g4]
 have hp : ∀ (x : Array Value) (j : Nat) (v : Value) (w : World), x[j]? = some v → (part e x j).run P w = .ok v w := fun x j v w h => by
  simp [part, hag, h]
 have hr := fun (x y : Int) (w : World) => run_equalIn_int (P := P) w dd e k k x y hE.out
 rw [run_equalIn_array w (dd + 1) _ _ hA.out g3, show List.range 4 = [0, 1, 2, 3] from rfl]
 have q0 := fun w => hp ⟨[.int k a, .int k b, .int k c, .int k d]⟩ 0 (.int k a) w rfl
 have q1 := fun w => hp ⟨[.int k a, .int k b, .int k c, .int k d]⟩ 1 (.int k b) w rfl
 have q2 := fun w => hp ⟨[.int k a, .int k b, .int k c, .int k d]⟩ 2 (.int k c) w rfl
 have q3 := fun w => hp ⟨[.int k a, .int k b, .int k c, .int k d]⟩ 3 (.int k d) w rfl
 have p0 := fun w => hp ⟨[.int k a', .int k b', .int k c', .int k d']⟩ 0 (.int k a') w rfl
 have p1 := fun w => hp ⟨[.int k a', .int k b', .int k c', .int k d']⟩ 1 (.int k b') w rfl
 have p2 := fun w => hp ⟨[.int k a', .int k b', .int k c', .int k d']⟩ 2 (.int k c') w rfl
 have p3 := fun w => hp ⟨[.int k a', .int k b', .int k c', .int k d']⟩ 3 (.int k d') w rfl
 simp only [Op.eqItems, Sem.run_bind, hcl, Nat.mul_one, q0, p0, q1, p1, q2, p2, q3, p3, Result.andThen_ok, hr]
 cases h0 : (a == a') <;> cases h1 : (b == b') <;> cases h2 : (c == c') <;> cases h3 : (d == d') <;> simp only [h0, h1, h2, h3, Bool.not_true, Bool.not_false, if_true, if_false, Bool.false_eq_true, Sem.run_bind, Sem.run_pure, q1, p1, q2, p2, q3, p3, hr, Result.andThen_ok, Op.eqItems]
 all_goals (congr 1; simp only [beq_iff_eq, beq_eq_false_iff_ne] at h0 h1 h2 h3; simp [h0, h1, h2, h3])⟩
section
variable {x : Cx} {Q : Exit → Act → World → Prop} {E : Env} {ρ : Hp} {L L1 : SH} {ops : Array Oper} {rest : List Oper} {ty : TypeId} {pos : String} {af : Array Edge}
theorem zero_u8 (n : Nat) : (Builtin.zeroCells (Value.int IntKind.u8 0).cells n).toList = List.replicate n (.int .u8 0) := by
 have hzc : (Value.int IntKind.u8 0).cells = #[Value.int .u8 0] := rfl
 rw [hzc]
 apply List.ext_getElem
 ·have := size_zeroCells (#[Value.int .u8 0]) n
  rw [Array.length_toList, this]; simp
 ·intro j h1 h2
  simp [Builtin.zeroCells, Nat.mod_one]
theorem run_append_room_zeros {P : Program} {w : World} (t tn ty e : TypeId) (i : TypeInfo) (k kn : IntKind) (ht : P.underlying t = some (.slice e)) (htn : P.underlying tn = some (.int kn)) (hi : P.info? e = some i) (hz : i.zero = some (.int .u8 0)) (hs : i.size = 1) (hby : i.bytes = 1)
  (b n cap m : Nat) (l : List Value) (hb : w.heap[b]? = some (.cells ⟨l⟩ e (0, 0))) (h0 : 0 < m) (hroom : n + m ≤ cap) (hfit : n + m ≤ l.length) (hm : m ≤ 1000000) :
  (Builtin.append_ #[t, tn] ty #[.slice (some ⟨b, 0, none⟩) n cap, .int k m]).run P w = .ok (.slice (some ⟨b, 0, none⟩) (n + m) cap) (putB w b (.cells ⟨stc l n (List.replicate m (.int .u8 0))⟩ e (0, 0))) := by
 have hw : IntKind.i64.wrap (m : Int) = m := by rw [IntKind.wrap_i64]; omega
 have h48i : ¬ (281474976710656 < (m : Int)) := by omega
 have hneg : ¬ ((m : Int) < 0) := by omega
 have hm0 : m ≠ 0 := by omega
 have hst := run_storeCells_stc (P := P) (o := n) (ys := List.replicate m (.int .u8 0)) hb (by simpa using hfit) (by simp [Value.oneCell'])
 have hzz := zero_u8 m
 simp [Builtin.append_, run_underlying ht, run_underlying htn, sizeOf, typeInfo, zeroValue, hi, hz, hs, hby, asInt, asIntOf, hw, hroom, hneg, h48i, hm0, hzz, Addr.add_lit, hst]
theorem tl_appZown {d t tn e n m : Nat} {s y : Operand} {v : Value} {l : List UInt8} {sp : List Value} {k kn : IntKind} [hS : ZY x.P t e] [hN : YC x.P tn kn] [hZ : ZS x.P e 1] [hB : ZC x.P e 1] [hz : ZD x.P e (.int .u8 0)]
  (hs : ev E s = some v) (hy : ev E y = some (.int k (m : Int))) (hown : OwnS v n (l.map ZE) sp 1) (hpos : 0 < n) [hR : Rem (ZO v (l.map ZE) sp e) L L1] (h0 : 0 < m) (hb : n + m ≤ 1000000) (hd : Nat.blt d x.N = true)
  (kk : ∀ v' sp', OwnS v' (n + m) ((l ++ List.replicate m (0 : UInt8)).map ZE) sp' 1 → TL x ops rest Q ((d, v') :: E) ρ (ZO v' ((l ++ List.replicate m (0 : UInt8)).map ZE) sp' e :: L1)) :
  TL x ops (⟨some d, .call { callee := .builtin .append, args := #[s, y], argTypes := #[t, tn] }, ty, pos, af, none⟩ :: rest) Q E ρ L := by
 have hzm : (l ++ List.replicate m (0 : UInt8)).map ZE = l.map ZE ++ List.replicate m (.int .u8 0) := by simp [ZE]
 rw [hzm] at kk
 generalize l.map ZE = xs at *
 refine TL.perm (L' := ZO v xs sp e :: L1) ?_ (by simpa using hR.out)
 rcases hown.out with ⟨_, h, _, _⟩ | ⟨b, cap, rfl, h1, h2, h3⟩
 ·omega
 simp only [Nat.mul_one] at h1 h2
 obtain ⟨inf, g1, g2⟩ := hZ.out
 obtain ⟨i2, g3, g4⟩ := hB.out
 obtain ⟨i3, g5, g6⟩ := hz.out
 rw [g1] at g3 g5
 cases g3; cases g5
 by_cases hroom : n + m ≤ cap
 ·have hst : stc (xs ++ sp) n (List.replicate m (.int .u8 0)) = (xs ++ List.replicate m (.int .u8 0)) ++ sp.drop m := by
   unfold stc
   rw [List.take_left' h1, List.length_replicate, List.drop_append, List.drop_of_length_le (by omega), h1, show n + m - n = m by omega, List.nil_append]
  have hk := kk (.slice (some ⟨b, 0, none⟩) (n + m) cap) (sp.drop m) ⟨.inr ⟨b, cap, rfl, by simp [h1], by simp; omega, hroom⟩⟩
  refine tl_eff (L := ZO (.slice (some ⟨b, 0, none⟩) n cap) xs sp e :: L1) (o := .cells ⟨xs ++ sp⟩ e (0, 0)) (f := fun o' => [(b, o')] :: L1) (hU := Upd.here) (o' := .cells ⟨stc (xs ++ sp) n (List.replicate m (.int .u8 0))⟩ e (0, 0)) (fun a w ha hw hbk => ?_) hd rfl (by rw [hst]; exact hk)
  have hr := run_append_room_zeros (P := x.P) t tn ty e inf k kn hS.out hN.out g1 g6 g2 g4 b n cap m (xs ++ sp) hbk h0 hroom (by rw [List.length_append]; omega) (by omega)
  simp only [execOp, resolve, Sem.run_bind, Sem.run_pure, Result.andThen_ok, invoke, builtin]
  have hargs : Array.map a.eval #[s, y] = #[.slice (some ⟨b, 0, none⟩) n cap, .int k m] := by simp [ha.eval hs, ha.eval hy]
  rw [hargs, hr]
  rfl
 ·intro a w ha hw
  refine Yc rfl rfl ?_
  have hbk : w.heap[b]? = some (.cells ⟨xs ++ sp⟩ e (0, 0)) := hw.here (b, .cells ⟨xs ++ sp⟩ e (0, 0)) (by simp [ZO])
  have hsrc : ∀ j v, xs[j]? = some v → w.cell? ((⟨b, 0, none⟩ : Addr).add j) = some v := fun j v hj => by
   rw [Yg]
   simp only [World.cell?, hbk, Option.isSome_none, Bool.false_eq_true, if_false, Nat.zero_add]
   simp only [List.getElem?_toArray]
   rw [List.getElem?_append_left (List.getElem?_eq_some_iff.1 hj).1]; exact hj
  have hr := run_append_grow_zeros (P := x.P) w t tn ty e inf (.int .u8 0) k kn hS.out hN.out g1 g6 ⟨b, 0, none⟩ n cap xs (by rw [g2]; omega) hsrc m h0 (by omega) (by omega) (by omega) (growslice_fits (by omega) (by rw [g4]; omega)) (by rw [g4]; omega)
  have he : (execOp a.eval ⟨some d, .call { callee := .builtin .append, args := #[s, y], argTypes := #[t, tn] }, ty, pos, af, none⟩).run x.P w = .ok (.value (.slice (some ⟨w.heap.size, 0, none⟩) (n + m) (grownCap w (n + m) cap e)))
    (w.drew.alloc (.cells (xs.toArray ++ Builtin.zeroCells (Value.int .u8 0).cells m ++ Builtin.zeroCells (Value.int .u8 0).cells (grownCap w (n + m) cap e - (n + m))) e)) := by
   simp only [execOp, resolve, Sem.run_bind, Sem.run_pure, Result.andThen_ok, invoke, builtin]
   have hargs : Array.map a.eval #[s, y] = #[.slice (some ⟨b, 0, none⟩) n cap, .int k m] := by simp [ha.eval hs, ha.eval hy]
   rw [hargs, hr]
   rfl
  rw [he]
  have hgc : n + m ≤ grownCap w (n + m) cap e := by simp only [grownCap, Question.cut]; omega
  have hwL : Sat x.u ρ L1 w := hw.sub (by simp)
  have hs2 := (hwL.drew).new (.cells (xs.toArray ++ Builtin.zeroCells (Value.int .u8 0).cells m ++ Builtin.zeroCells (Value.int .u8 0).cells (grownCap w (n + m) cap e - (n + m))) e (0, 0))
  refine kk (.slice (some ⟨w.heap.size, 0, none⟩) (n + m) (grownCap w (n + m) cap e)) (List.replicate (grownCap w (n + m) cap e - (n + m)) (.int .u8 0)) ⟨.inr ⟨_, _, rfl, by simp [h1], by simp; omega, hgc⟩⟩ _ _ (ha.put (Nat.le_of_ble_eq_true hd) _) ?_
  have : (⟨(xs ++ List.replicate m (.int .u8 0)) ++ List.replicate (grownCap w (n + m) cap e - (n + m)) (.int .u8 0)⟩ : Array Value) = xs.toArray ++ Builtin.zeroCells (Value.int .u8 0).cells m ++ Builtin.zeroCells (Value.int .u8 0).cells (grownCap w (n + m) cap e - (n + m)) := by
   apply Array.ext'
   rw [Array.toList_append, Array.toList_append, zero_u8, zero_u8]
  show Sat _ _ ([(_, .cells ⟨_⟩ e (0, 0))] :: L1) _
  rw [this]
  exact hs2
end
end Go.Proofs.E
namespace Go.Proofs.E
open Go Go.Proofs.E
set_option linter.unusedVariables false
theorem tqI {t : TypeId} {b : Bool} (h : (Try.prog.underlying t).map isIfaceD = some b := by kernel_rfl) : ZF Try.prog t b := mkTyIface h
theorem tqS {t : TypeId} (h : (Try.prog.underlying t).map isAggD = some false := by kernel_rfl) (k : (Try.prog.info? t).map (·.size) = some 1 := by kernel_rfl) : TyS Try.prog t := mkTyS h k
theorem tqA {t : TypeId} {n : Nat} (h : (Try.prog.underlying t).map isAggD = some true := by kernel_rfl) (k : (Try.prog.info? t).map (·.size) = some n := by kernel_rfl) : TyA Try.prog t n := mkTyA h k
theorem tqN {t : TypeId} {n : Nat} (k : (Try.prog.info? t).map (·.size) = some n := by kernel_rfl) : ZS Try.prog t n := mkTySz k
theorem tqB {t : TypeId} {n : Nat} (k : (Try.prog.info? t).map (·.bytes) = some n := by kernel_rfl) : ZC Try.prog t n := mkTyBytes k
theorem tqO {t : TypeId} {z : Value} (k : (Try.prog.info? t).bind (·.zero) = some z := by kernel_rfl) : ZD Try.prog t z := mkTyZero k
theorem tqF {t : TypeId} (h : (Try.prog.underlying t).map isFuncD = some true := by kernel_rfl) : YX Try.prog t := mkTyFunc h
theorem tqD {s : TypeId} {f off : Nat} {ft : TypeId} (h : fldB Try.prog s f = some (off, ft) := by kernel_rfl) : Fld Try.prog s f off ft := mkFld h
theorem tqU {f : FuncId} (h : funB Try.prog f = true := by kernel_rfl) : Fun Try.prog f := mkFun h
instance : TyS Try.prog 1 := tqS
instance : ZF Try.prog 1 false := tqI
instance : YX Try.prog 1 := tqF
instance : ZS Try.prog 1 1 := tqN
instance : ZC Try.prog 1 8 := tqB
instance : ZD Try.prog 1 (.nilFunc) := tqO
instance : TyS Try.prog 2 := tqS
instance : ZF Try.prog 2 false := tqI
instance : ZS Try.prog 2 1 := tqN
instance : ZC Try.prog 2 8 := tqB
instance : ZD Try.prog 2 (.int .i64 0) := tqO
instance : YC Try.prog 2 .i64 := ⟨by kernel_rfl⟩
instance : TyS Try.prog 3 := tqS
instance : ZF Try.prog 3 false := tqI
instance : ZS Try.prog 3 1 := tqN
instance : ZC Try.prog 3 8 := tqB
instance : ZD Try.prog 3 (.int .i64 0) := tqO
instance : YC Try.prog 3 .i64 := ⟨by kernel_rfl⟩
instance : TyS Try.prog 4 := tqS
instance : ZF Try.prog 4 false := tqI
instance : ZS Try.prog 4 1 := tqN
instance : ZC Try.prog 4 1 := tqB
instance : ZD Try.prog 4 (.bool false) := tqO
instance : TyBool Try.prog 4 := ⟨by kernel_rfl⟩
instance : TyS Try.prog 5 := tqS
instance : ZF Try.prog 5 false := tqI
instance : ZS Try.prog 5 1 := tqN
instance : ZC Try.prog 5 1 := tqB
instance : ZD Try.prog 5 (.int .u8 0) := tqO
instance : YC Try.prog 5 .u8 := ⟨by kernel_rfl⟩
instance : TyA Try.prog 7 4 := tqA
instance : ZF Try.prog 7 false := tqI
instance : ZS Try.prog 7 4 := tqN
instance : ZC Try.prog 7 24 := tqB
instance : ZD Try.prog 7 (.agg ⟨[.int .i64 0, .int .i64 0, .bool false, .int .u8 0]⟩) := tqO
instance : Yn Try.prog 7 := ⟨by kernel_rfl⟩
instance : Fld Try.prog 7 0 0 2 := tqD
instance : Fld Try.prog 7 1 1 3 := tqD
instance : Fld Try.prog 7 2 2 4 := tqD
instance : Fld Try.prog 7 3 3 6 := tqD
instance : Yf Try.prog 7 (([(0, 1), (1, 1), (2, 1), (3, 1)] : List (Nat × Nat))[·]?) := Ym (by kernel_rfl)
instance : TyS Try.prog 9 := tqS
instance : ZF Try.prog 9 false := tqI
instance : ZS Try.prog 9 1 := tqN
instance : ZC Try.prog 9 16 := tqB
instance : ZD Try.prog 9 (.string ⟨⟨[]⟩⟩) := tqO
instance : TyStr Try.prog 9 := ⟨by kernel_rfl⟩
instance : TyS Try.prog 12 := tqS
instance : ZF Try.prog 12 false := tqI
instance : ZS Try.prog 12 1 := tqN
instance : ZC Try.prog 12 8 := tqB
instance : ZD Try.prog 12 (.int .u64 0) := tqO
instance : YC Try.prog 12 .u64 := ⟨by kernel_rfl⟩
instance : TyS Try.prog 16 := tqS
instance : ZF Try.prog 16 false := tqI
instance : ZS Try.prog 16 1 := tqN
instance : ZC Try.prog 16 8 := tqB
instance : ZD Try.prog 16 (.pointer none) := tqO
instance : TyPtr Try.prog 16 127 := ⟨by kernel_rfl⟩
instance : TyS Try.prog 17 := tqS
instance : ZF Try.prog 17 false := tqI
instance : ZS Try.prog 17 1 := tqN
instance : ZC Try.prog 17 8 := tqB
instance : ZD Try.prog 17 (.pointer none) := tqO
instance : TyPtr Try.prog 17 136 := ⟨by kernel_rfl⟩
instance : TyS Try.prog 20 := tqS
instance : ZF Try.prog 20 true := tqI
instance : ZS Try.prog 20 1 := tqN
instance : ZC Try.prog 20 16 := tqB
instance : ZD Try.prog 20 (.nilIface) := tqO
instance : TyS Try.prog 21 := tqS
instance : ZF Try.prog 21 false := tqI
instance : ZS Try.prog 21 1 := tqN
instance : ZC Try.prog 21 4 := tqB
instance : ZD Try.prog 21 (.int .i32 0) := tqO
instance : YC Try.prog 21 .i32 := ⟨by kernel_rfl⟩
instance : TyS Try.prog 22 := tqS
instance : ZF Try.prog 22 false := tqI
instance : ZS Try.prog 22 1 := tqN
instance : ZC Try.prog 22 24 := tqB
instance : ZD Try.prog 22 (.slice none 0 0) := tqO
instance : ZY Try.prog 22 42 := ⟨by kernel_rfl⟩
instance : TyS Try.prog 23 := tqS
instance : ZF Try.prog 23 false := tqI
instance : YX Try.prog 23 := tqF
instance : ZS Try.prog 23 1 := tqN
instance : ZC Try.prog 23 8 := tqB
instance : ZD Try.prog 23 (.nilFunc) := tqO
instance : TyS Try.prog 24 := tqS
instance : ZF Try.prog 24 false := tqI
instance : ZS Try.prog 24 1 := tqN
instance : ZC Try.prog 24 8 := tqB
instance : ZD Try.prog 24 (.pointer none) := tqO
instance : TyPtr Try.prog 24 61 := ⟨by kernel_rfl⟩
instance : TyS Try.prog 25 := tqS
instance : ZF Try.prog 25 false := tqI
instance : ZS Try.prog 25 1 := tqN
instance : ZC Try.prog 25 8 := tqB
instance : ZD Try.prog 25 (.int .i64 0) := tqO
instance : YC Try.prog 25 .i64 := ⟨by kernel_rfl⟩
instance : TyS Try.prog 28 := tqS
instance : ZF Try.prog 28 false := tqI
instance : ZS Try.prog 28 1 := tqN
instance : ZC Try.prog 28 8 := tqB
instance : ZD Try.prog 28 (.pointer none) := tqO
instance : TyPtr Try.prog 28 38 := ⟨by kernel_rfl⟩
instance : TyS Try.prog 29 := tqS
instance : ZF Try.prog 29 false := tqI
instance : ZS Try.prog 29 1 := tqN
instance : ZC Try.prog 29 8 := tqB
instance : ZD Try.prog 29 (.int .u64 0) := tqO
instance : YC Try.prog 29 .u64 := ⟨by kernel_rfl⟩
instance : TyS Try.prog 30 := tqS
instance : ZF Try.prog 30 false := tqI
instance : ZS Try.prog 30 1 := tqN
instance : ZC Try.prog 30 24 := tqB
instance : ZD Try.prog 30 (.slice none 0 0) := tqO
instance : ZY Try.prog 30 5 := ⟨by kernel_rfl⟩
instance : TyA Try.prog 31 5 := tqA
instance : ZF Try.prog 31 false := tqI
instance : ZS Try.prog 31 5 := tqN
instance : ZC Try.prog 31 56 := tqB
instance : ZD Try.prog 31 (.agg ⟨[.int .u64 0, .int .i64 0, .int .u64 0, .int .i64 0, .slice none 0 0]⟩) := tqO
instance : Yn Try.prog 31 := ⟨by kernel_rfl⟩
instance : Fld Try.prog 31 0 0 29 := tqD
instance : Fld Try.prog 31 1 1 3 := tqD
instance : Fld Try.prog 31 2 2 29 := tqD
instance : Fld Try.prog 31 3 3 3 := tqD
instance : Fld Try.prog 31 4 4 30 := tqD
instance : Yf Try.prog 31 (([(0, 1), (1, 1), (2, 1), (3, 1), (4, 1)] : List (Nat × Nat))[·]?) := Ym (by kernel_rfl)
instance : TyA Try.prog 32 5 := tqA
instance : ZF Try.prog 32 false := tqI
instance : ZS Try.prog 32 5 := tqN
instance : ZC Try.prog 32 56 := tqB
instance : ZD Try.prog 32 (.agg ⟨[.int .u64 0, .int .i64 0, .int .u64 0, .int .i64 0, .slice none 0 0]⟩) := tqO
instance : Yn Try.prog 32 := ⟨by kernel_rfl⟩
instance : TyFlds Try.prog 32 [(0, 29), (1, 3), (2, 29), (3, 3), (4, 30)] := mkTyFlds (by kernel_rfl)
instance : Fld Try.prog 32 0 0 29 := tqD
instance : Fld Try.prog 32 1 1 3 := tqD
instance : Fld Try.prog 32 2 2 29 := tqD
instance : Fld Try.prog 32 3 3 3 := tqD
instance : Fld Try.prog 32 4 4 30 := tqD
instance : Yf Try.prog 32 (([(0, 1), (1, 1), (2, 1), (3, 1), (4, 1)] : List (Nat × Nat))[·]?) := Ym (by kernel_rfl)
instance : TyS Try.prog 33 := tqS
instance : ZF Try.prog 33 false := tqI
instance : ZS Try.prog 33 1 := tqN
instance : ZC Try.prog 33 24 := tqB
instance : ZD Try.prog 33 (.slice none 0 0) := tqO
instance : ZY Try.prog 33 30 := ⟨by kernel_rfl⟩
instance : TyS Try.prog 34 := tqS
instance : ZF Try.prog 34 false := tqI
instance : ZS Try.prog 34 1 := tqN
instance : ZC Try.prog 34 24 := tqB
instance : ZD Try.prog 34 (.slice none 0 0) := tqO
instance : ZY Try.prog 34 3 := ⟨by kernel_rfl⟩
instance : TyA Try.prog 35 7 := tqA
instance : ZF Try.prog 35 false := tqI
instance : ZS Try.prog 35 7 := tqN
instance : ZC Try.prog 35 104 := tqB
instance : ZD Try.prog 35 (.agg ⟨[.int .u64 0, .int .i64 0, .int .u64 0, .int .i64 0, .slice none 0 0, .slice none 0 0, .slice none 0 0]⟩) := tqO
instance : Yn Try.prog 35 := ⟨by kernel_rfl⟩
instance : Fld Try.prog 35 0 0 32 := tqD
instance : Fld Try.prog 35 1 5 33 := tqD
instance : Fld Try.prog 35 2 6 34 := tqD
instance : Yf Try.prog 35 (([(0, 5), (5, 1), (6, 1)] : List (Nat × Nat))[·]?) := Ym (by kernel_rfl)
instance : TyA Try.prog 36 7 := tqA
instance : ZF Try.prog 36 false := tqI
instance : ZS Try.prog 36 7 := tqN
instance : ZC Try.prog 36 104 := tqB
instance : ZD Try.prog 36 (.agg ⟨[.int .u64 0, .int .i64 0, .int .u64 0, .int .i64 0, .slice none 0 0, .slice none 0 0, .slice none 0 0]⟩) := tqO
instance : Yn Try.prog 36 := ⟨by kernel_rfl⟩
instance : TyFlds Try.prog 36 [(0, 32), (5, 33), (6, 34)] := mkTyFlds (by kernel_rfl)
instance : Fld Try.prog 36 0 0 32 := tqD
instance : Fld Try.prog 36 1 5 33 := tqD
instance : Fld Try.prog 36 2 6 34 := tqD
instance : Yf Try.prog 36 (([(0, 5), (5, 1), (6, 1)] : List (Nat × Nat))[·]?) := Ym (by kernel_rfl)
instance : TyA Try.prog 37 10 := tqA
instance : ZF Try.prog 37 false := tqI
instance : ZS Try.prog 37 10 := tqN
instance : ZC Try.prog 37 120 := tqB
instance : ZD Try.prog 37 (.agg ⟨[.pointer none, .int .u64 0, .int .i64 0, .int .u64 0, .int .i64 0, .slice none 0 0, .slice none 0 0, .slice none 0 0, .bool false, .bool false]⟩) := tqO
instance : Yn Try.prog 37 := ⟨by kernel_rfl⟩
instance : Fld Try.prog 37 0 0 24 := tqD
instance : Fld Try.prog 37 1 1 36 := tqD
instance : Fld Try.prog 37 2 8 4 := tqD
instance : Fld Try.prog 37 3 9 4 := tqD
instance : Yf Try.prog 37 (([(0, 1), (1, 7), (8, 1), (9, 1)] : List (Nat × Nat))[·]?) := Ym (by kernel_rfl)
instance : TyA Try.prog 38 10 := tqA
instance : ZF Try.prog 38 false := tqI
instance : ZS Try.prog 38 10 := tqN
instance : ZC Try.prog 38 120 := tqB
instance : ZD Try.prog 38 (.agg ⟨[.pointer none, .int .u64 0, .int .i64 0, .int .u64 0, .int .i64 0, .slice none 0 0, .slice none 0 0, .slice none 0 0, .bool false, .bool false]⟩) := tqO
instance : Yn Try.prog 38 := ⟨by kernel_rfl⟩
instance : TyFlds Try.prog 38 [(0, 24), (1, 36), (8, 4), (9, 4)] := mkTyFlds (by kernel_rfl)
instance : Fld Try.prog 38 0 0 24 := tqD
instance : Fld Try.prog 38 1 1 36 := tqD
instance : Fld Try.prog 38 2 8 4 := tqD
instance : Fld Try.prog 38 3 9 4 := tqD
instance : Yf Try.prog 38 (([(0, 1), (1, 7), (8, 1), (9, 1)] : List (Nat × Nat))[·]?) := Ym (by kernel_rfl)
instance : TyS Try.prog 39 := tqS
instance : ZF Try.prog 39 false := tqI
instance : ZS Try.prog 39 1 := tqN
instance : ZC Try.prog 39 8 := tqB
instance : ZD Try.prog 39 (.pointer none) := tqO
instance : TyPtr Try.prog 39 84 := ⟨by kernel_rfl⟩
instance : TyS Try.prog 40 := tqS
instance : ZF Try.prog 40 false := tqI
instance : ZS Try.prog 40 1 := tqN
instance : ZC Try.prog 40 24 := tqB
instance : ZD Try.prog 40 (.slice none 0 0) := tqO
instance : ZY Try.prog 40 4 := ⟨by kernel_rfl⟩
instance : TyA Try.prog 41 5 := tqA
instance : ZF Try.prog 41 false := tqI
instance : ZS Try.prog 41 5 := tqN
instance : ZC Try.prog 41 88 := tqB
instance : ZD Try.prog 41 (.agg ⟨[.int .i64 0, .int .i64 0, .slice none 0 0, .slice none 0 0, .slice none 0 0]⟩) := tqO
instance : Yn Try.prog 41 := ⟨by kernel_rfl⟩
instance : Fld Try.prog 41 0 0 3 := tqD
instance : Fld Try.prog 41 1 1 3 := tqD
instance : Fld Try.prog 41 2 2 30 := tqD
instance : Fld Try.prog 41 3 3 30 := tqD
instance : Fld Try.prog 41 4 4 40 := tqD
instance : Yf Try.prog 41 (([(0, 1), (1, 1), (2, 1), (3, 1), (4, 1)] : List (Nat × Nat))[·]?) := Ym (by kernel_rfl)
instance : TyA Try.prog 42 5 := tqA
instance : ZF Try.prog 42 false := tqI
instance : ZS Try.prog 42 5 := tqN
instance : ZC Try.prog 42 88 := tqB
instance : ZD Try.prog 42 (.agg ⟨[.int .i64 0, .int .i64 0, .slice none 0 0, .slice none 0 0, .slice none 0 0]⟩) := tqO
instance : Yn Try.prog 42 := ⟨by kernel_rfl⟩
instance : TyFlds Try.prog 42 [(0, 3), (1, 3), (2, 30), (3, 30), (4, 40)] := mkTyFlds (by kernel_rfl)
instance : Fld Try.prog 42 0 0 3 := tqD
instance : Fld Try.prog 42 1 1 3 := tqD
instance : Fld Try.prog 42 2 2 30 := tqD
instance : Fld Try.prog 42 3 3 30 := tqD
instance : Fld Try.prog 42 4 4 40 := tqD
instance : Yf Try.prog 42 (([(0, 1), (1, 1), (2, 1), (3, 1), (4, 1)] : List (Nat × Nat))[·]?) := Ym (by kernel_rfl)
instance : TyS Try.prog 44 := tqS
instance : ZF Try.prog 44 false := tqI
instance : YX Try.prog 44 := tqF
instance : ZS Try.prog 44 1 := tqN
instance : ZC Try.prog 44 8 := tqB
instance : ZD Try.prog 44 (.nilFunc) := tqO
instance : TyA Try.prog 47 64 := tqA
instance : ZF Try.prog 47 false := tqI
instance : ZS Try.prog 47 64 := tqN
instance : ZC Try.prog 47 64 := tqB
instance : ZD Try.prog 47 (.agg ⟨List.replicate 64 (.int .u8 0)⟩) := tqO
instance : Yn Try.prog 47 := ⟨by kernel_rfl⟩
instance : TyArr Try.prog 47 64 5 := ⟨by kernel_rfl⟩
instance : Yf Try.prog 47 (fun i => some (i * 1, 1)) := mkTyPlacesA (n := 64) (e := 5) (by kernel_rfl) (by kernel_rfl)
instance : TyA Try.prog 48 64 := tqA
instance : ZF Try.prog 48 false := tqI
instance : ZS Try.prog 48 64 := tqN
instance : ZC Try.prog 48 64 := tqB
instance : ZD Try.prog 48 (.agg ⟨List.replicate 64 (.int .u8 0)⟩) := tqO
instance : Yn Try.prog 48 := ⟨by kernel_rfl⟩
instance : TyArr Try.prog 48 64 5 := ⟨by kernel_rfl⟩
instance : Yf Try.prog 48 (fun i => some (i * 1, 1)) := mkTyPlacesA (n := 64) (e := 5) (by kernel_rfl) (by kernel_rfl)
instance : TyS Try.prog 50 := tqS
instance : ZF Try.prog 50 false := tqI
instance : YX Try.prog 50 := tqF
instance : ZS Try.prog 50 1 := tqN
instance : ZC Try.prog 50 8 := tqB
instance : ZD Try.prog 50 (.nilFunc) := tqO
instance : TyS Try.prog 56 := tqS
instance : ZF Try.prog 56 false := tqI
instance : YX Try.prog 56 := tqF
instance : ZS Try.prog 56 1 := tqN
instance : ZC Try.prog 56 8 := tqB
instance : ZD Try.prog 56 (.nilFunc) := tqO
instance : TyS Try.prog 58 := tqS
instance : ZF Try.prog 58 false := tqI
instance : ZS Try.prog 58 1 := tqN
instance : ZC Try.prog 58 24 := tqB
instance : ZD Try.prog 58 (.slice none 0 0) := tqO
instance : ZY Try.prog 58 48 := ⟨by kernel_rfl⟩
instance : TyS Try.prog 59 := tqS
instance : ZF Try.prog 59 false := tqI
instance : ZS Try.prog 59 1 := tqN
instance : ZC Try.prog 59 8 := tqB
instance : ZD Try.prog 59 (.map none) := tqO
instance : TyMap Try.prog 59 3 48 := ⟨by kernel_rfl⟩
instance : TyA Try.prog 60 6 := tqA
instance : ZF Try.prog 60 false := tqI
instance : ZS Try.prog 60 6 := tqN
instance : ZC Try.prog 60 64 := tqB
instance : ZD Try.prog 60 (.agg ⟨[.slice none 0 0, .map none, .int .i64 0, .int .i64 0, .int .i64 0, .bool false]⟩) := tqO
instance : Yn Try.prog 60 := ⟨by kernel_rfl⟩
instance : Fld Try.prog 60 0 0 58 := tqD
instance : Fld Try.prog 60 1 1 59 := tqD
instance : Fld Try.prog 60 2 2 3 := tqD
instance : Fld Try.prog 60 3 3 3 := tqD
instance : Fld Try.prog 60 4 4 3 := tqD
instance : Fld Try.prog 60 5 5 4 := tqD
instance : Yf Try.prog 60 (([(0, 1), (1, 1), (2, 1), (3, 1), (4, 1), (5, 1)] : List (Nat × Nat))[·]?) := Ym (by kernel_rfl)
instance : TyA Try.prog 61 6 := tqA
instance : ZF Try.prog 61 false := tqI
instance : ZS Try.prog 61 6 := tqN
instance : ZC Try.prog 61 64 := tqB
instance : ZD Try.prog 61 (.agg ⟨[.slice none 0 0, .map none, .int .i64 0, .int .i64 0, .int .i64 0, .bool false]⟩) := tqO
instance : Yn Try.prog 61 := ⟨by kernel_rfl⟩
instance : TyFlds Try.prog 61 [(0, 58), (1, 59), (2, 3), (3, 3), (4, 3), (5, 4)] := mkTyFlds (by kernel_rfl)
instance : Fld Try.prog 61 0 0 58 := tqD
instance : Fld Try.prog 61 1 1 59 := tqD
instance : Fld Try.prog 61 2 2 3 := tqD
instance : Fld Try.prog 61 3 3 3 := tqD
instance : Fld Try.prog 61 4 4 3 := tqD
instance : Fld Try.prog 61 5 5 4 := tqD
instance : Yf Try.prog 61 (([(0, 1), (1, 1), (2, 1), (3, 1), (4, 1), (5, 1)] : List (Nat × Nat))[·]?) := Ym (by kernel_rfl)
instance : TyS Try.prog 63 := tqS
instance : ZF Try.prog 63 false := tqI
instance : ZS Try.prog 63 1 := tqN
instance : ZC Try.prog 63 8 := tqB
instance : ZD Try.prog 63 (.int .u64 0) := tqO
instance : YC Try.prog 63 .u64 := ⟨by kernel_rfl⟩
instance : TyS Try.prog 64 := tqS
instance : ZF Try.prog 64 false := tqI
instance : YX Try.prog 64 := tqF
instance : ZS Try.prog 64 1 := tqN
instance : ZC Try.prog 64 8 := tqB
instance : ZD Try.prog 64 (.nilFunc) := tqO
instance : TyS Try.prog 73 := tqS
instance : ZF Try.prog 73 false := tqI
instance : YX Try.prog 73 := tqF
instance : ZS Try.prog 73 1 := tqN
instance : ZC Try.prog 73 8 := tqB
instance : ZD Try.prog 73 (.nilFunc) := tqO
instance : TyS Try.prog 74 := tqS
instance : ZF Try.prog 74 false := tqI
instance : YX Try.prog 74 := tqF
instance : ZS Try.prog 74 1 := tqN
instance : ZC Try.prog 74 8 := tqB
instance : ZD Try.prog 74 (.nilFunc) := tqO
instance : TyS Try.prog 78 := tqS
instance : ZF Try.prog 78 false := tqI
instance : YX Try.prog 78 := tqF
instance : ZS Try.prog 78 1 := tqN
instance : ZC Try.prog 78 8 := tqB
instance : ZD Try.prog 78 (.nilFunc) := tqO
instance : TyS Try.prog 79 := tqS
instance : ZF Try.prog 79 false := tqI
instance : YX Try.prog 79 := tqF
instance : ZS Try.prog 79 1 := tqN
instance : ZC Try.prog 79 8 := tqB
instance : ZD Try.prog 79 (.nilFunc) := tqO
instance : TyA Try.prog 80 5 := tqA
instance : ZF Try.prog 80 false := tqI
instance : ZS Try.prog 80 5 := tqN
instance : ZC Try.prog 80 56 := tqB
instance : ZD Try.prog 80 (.agg ⟨[.int .u64 0, .int .u64 0, .int .i64 0, .int .i64 0, .slice none 0 0]⟩) := tqO
instance : Yn Try.prog 80 := ⟨by kernel_rfl⟩
instance : Fld Try.prog 80 0 0 29 := tqD
instance : Fld Try.prog 80 1 1 29 := tqD
instance : Fld Try.prog 80 2 2 3 := tqD
instance : Fld Try.prog 80 3 3 3 := tqD
instance : Fld Try.prog 80 4 4 30 := tqD
instance : Yf Try.prog 80 (([(0, 1), (1, 1), (2, 1), (3, 1), (4, 1)] : List (Nat × Nat))[·]?) := Ym (by kernel_rfl)
instance : TyA Try.prog 81 5 := tqA
instance : ZF Try.prog 81 false := tqI
instance : ZS Try.prog 81 5 := tqN
instance : ZC Try.prog 81 56 := tqB
instance : ZD Try.prog 81 (.agg ⟨[.int .u64 0, .int .u64 0, .int .i64 0, .int .i64 0, .slice none 0 0]⟩) := tqO
instance : Yn Try.prog 81 := ⟨by kernel_rfl⟩
instance : TyFlds Try.prog 81 [(0, 29), (1, 29), (2, 3), (3, 3), (4, 30)] := mkTyFlds (by kernel_rfl)
instance : Fld Try.prog 81 0 0 29 := tqD
instance : Fld Try.prog 81 1 1 29 := tqD
instance : Fld Try.prog 81 2 2 3 := tqD
instance : Fld Try.prog 81 3 3 3 := tqD
instance : Fld Try.prog 81 4 4 30 := tqD
instance : Yf Try.prog 81 (([(0, 1), (1, 1), (2, 1), (3, 1), (4, 1)] : List (Nat × Nat))[·]?) := Ym (by kernel_rfl)
instance : TyA Try.prog 83 9 := tqA
instance : ZF Try.prog 83 false := tqI
instance : ZS Try.prog 83 9 := tqN
instance : ZC Try.prog 83 104 := tqB
instance : ZD Try.prog 83 (.agg ⟨[.int .u64 0, .int .u64 0, .int .i64 0, .int .i64 0, .slice none 0 0, .pointer none, .slice none 0 0, .int .i64 0, .bool false]⟩) := tqO
instance : Yn Try.prog 83 := ⟨by kernel_rfl⟩
instance : Fld Try.prog 83 0 0 81 := tqD
instance : Fld Try.prog 83 1 5 24 := tqD
instance : Fld Try.prog 83 2 6 33 := tqD
instance : Fld Try.prog 83 3 7 3 := tqD
instance : Fld Try.prog 83 4 8 4 := tqD
instance : Yf Try.prog 83 (([(0, 5), (5, 1), (6, 1), (7, 1), (8, 1)] : List (Nat × Nat))[·]?) := Ym (by kernel_rfl)
instance : TyA Try.prog 84 9 := tqA
instance : ZF Try.prog 84 false := tqI
instance : ZS Try.prog 84 9 := tqN
instance : ZC Try.prog 84 104 := tqB
instance : ZD Try.prog 84 (.agg ⟨[.int .u64 0, .int .u64 0, .int .i64 0, .int .i64 0, .slice none 0 0, .pointer none, .slice none 0 0, .int .i64 0, .bool false]⟩) := tqO
instance : Yn Try.prog 84 := ⟨by kernel_rfl⟩
instance : TyFlds Try.prog 84 [(0, 81), (5, 24), (6, 33), (7, 3), (8, 4)] := mkTyFlds (by kernel_rfl)
instance : Fld Try.prog 84 0 0 81 := tqD
instance : Fld Try.prog 84 1 5 24 := tqD
instance : Fld Try.prog 84 2 6 33 := tqD
instance : Fld Try.prog 84 3 7 3 := tqD
instance : Fld Try.prog 84 4 8 4 := tqD
instance : Yf Try.prog 84 (([(0, 5), (5, 1), (6, 1), (7, 1), (8, 1)] : List (Nat × Nat))[·]?) := Ym (by kernel_rfl)
instance : TyS Try.prog 86 := tqS
instance : ZF Try.prog 86 false := tqI
instance : YX Try.prog 86 := tqF
instance : ZS Try.prog 86 1 := tqN
instance : ZC Try.prog 86 8 := tqB
instance : ZD Try.prog 86 (.nilFunc) := tqO
instance : TyS Try.prog 88 := tqS
instance : ZF Try.prog 88 false := tqI
instance : YX Try.prog 88 := tqF
instance : ZS Try.prog 88 1 := tqN
instance : ZC Try.prog 88 8 := tqB
instance : ZD Try.prog 88 (.nilFunc) := tqO
instance : TyA Try.prog 92 128 := tqA
instance : ZF Try.prog 92 false := tqI
instance : ZS Try.prog 92 128 := tqN
instance : ZC Try.prog 92 128 := tqB
instance : ZD Try.prog 92 (.agg ⟨List.replicate 128 (.int .u8 0)⟩) := tqO
instance : Yn Try.prog 92 := ⟨by kernel_rfl⟩
instance : TyArr Try.prog 92 2 48 := ⟨by kernel_rfl⟩
instance : Yf Try.prog 92 (fun i => some (i * 64, 64)) := mkTyPlacesA (n := 2) (e := 48) (by kernel_rfl) (by kernel_rfl)
instance : TyS Try.prog 96 := tqS
instance : ZF Try.prog 96 false := tqI
instance : YX Try.prog 96 := tqF
instance : ZS Try.prog 96 1 := tqN
instance : ZC Try.prog 96 8 := tqB
instance : ZD Try.prog 96 (.nilFunc) := tqO
instance : TyS Try.prog 101 := tqS
instance : ZF Try.prog 101 false := tqI
instance : YX Try.prog 101 := tqF
instance : ZS Try.prog 101 1 := tqN
instance : ZC Try.prog 101 8 := tqB
instance : ZD Try.prog 101 (.nilFunc) := tqO
instance : TyS Try.prog 104 := tqS
instance : ZF Try.prog 104 false := tqI
instance : ZS Try.prog 104 1 := tqN
instance : ZC Try.prog 104 8 := tqB
instance : ZD Try.prog 104 (.pointer none) := tqO
instance : TyPtr Try.prog 104 3 := ⟨by kernel_rfl⟩
instance : TyS Try.prog 113 := tqS
instance : ZF Try.prog 113 false := tqI
instance : YX Try.prog 113 := tqF
instance : ZS Try.prog 113 1 := tqN
instance : ZC Try.prog 113 8 := tqB
instance : ZD Try.prog 113 (.nilFunc) := tqO
instance : TyS Try.prog 128 := tqS
instance : ZF Try.prog 128 false := tqI
instance : ZS Try.prog 128 1 := tqN
instance : ZC Try.prog 128 4 := tqB
instance : ZD Try.prog 128 (.int .u32 0) := tqO
instance : YC Try.prog 128 .u32 := ⟨by kernel_rfl⟩
instance : TyS Try.prog 131 := tqS
instance : ZF Try.prog 131 false := tqI
instance : YX Try.prog 131 := tqF
instance : ZS Try.prog 131 1 := tqN
instance : ZC Try.prog 131 8 := tqB
instance : ZD Try.prog 131 (.nilFunc) := tqO
instance : TyS Try.prog 132 := tqS
instance : ZF Try.prog 132 false := tqI
instance : ZS Try.prog 132 1 := tqN
instance : ZC Try.prog 132 8 := tqB
instance : ZD Try.prog 132 (.pointer none) := tqO
instance : TyPtr Try.prog 132 5 := ⟨by kernel_rfl⟩
instance : TyA Try.prog 135 11 := tqA
instance : ZF Try.prog 135 false := tqI
instance : ZS Try.prog 135 11 := tqN
instance : ZC Try.prog 135 48 := tqB
instance : ZD Try.prog 135 (.agg ⟨[.int .u64 0, .int .u64 0, .int .u32 0, .int .u8 0, .int .u8 0, .int .u8 0, .int .u8 0, .nilFunc, .pointer none, .int .i32 0, .int .i32 0]⟩) := tqO
instance : Yn Try.prog 135 := ⟨by kernel_rfl⟩
instance : Fld Try.prog 135 0 0 12 := tqD
instance : Fld Try.prog 135 1 1 12 := tqD
instance : Fld Try.prog 135 2 2 128 := tqD
instance : Fld Try.prog 135 3 3 129 := tqD
instance : Fld Try.prog 135 4 4 5 := tqD
instance : Fld Try.prog 135 5 5 5 := tqD
instance : Fld Try.prog 135 6 6 130 := tqD
instance : Fld Try.prog 135 7 7 131 := tqD
instance : Fld Try.prog 135 8 8 132 := tqD
instance : Fld Try.prog 135 9 9 133 := tqD
instance : Fld Try.prog 135 10 10 134 := tqD
instance : Yf Try.prog 135 (([(0, 1), (1, 1), (2, 1), (3, 1), (4, 1), (5, 1), (6, 1), (7, 1), (8, 1), (9, 1), (10, 1)] : List (Nat × Nat))[·]?) := Ym (by kernel_rfl)
instance : Fun Try.prog 3 := tqU
instance : Fun Try.prog 4 := tqU
instance : Fun Try.prog 5 := tqU
instance : Fun Try.prog 6 := tqU
instance : Fun Try.prog 7 := tqU
instance : Fun Try.prog 8 := tqU
instance : Fun Try.prog 9 := tqU
instance : Fun Try.prog 10 := tqU
instance : Fun Try.prog 11 := tqU
instance : Fun Try.prog 12 := tqU
instance : Fun Try.prog 13 := tqU
instance : Fun Try.prog 14 := tqU
instance : Fun Try.prog 15 := tqU
instance : Fun Try.prog 16 := tqU
instance : Fun Try.prog 17 := tqU
instance : Fun Try.prog 18 := tqU
instance : Fun Try.prog 19 := tqU
instance : Fun Try.prog 20 := tqU
instance : Fun Try.prog 21 := tqU
instance : Fun Try.prog 22 := tqU
instance : Fun Try.prog 23 := tqU
instance : Fun Try.prog 24 := tqU
instance : Fun Try.prog 25 := tqU
instance : Fun Try.prog 26 := tqU
instance : Fun Try.prog 27 := tqU
instance : Fun Try.prog 28 := tqU
instance : Fun Try.prog 29 := tqU
instance : Fun Try.prog 30 := tqU
instance : Fun Try.prog 31 := tqU
instance : Fun Try.prog 32 := tqU
instance : Fun Try.prog 33 := tqU
instance : Fun Try.prog 34 := tqU
instance : Fun Try.prog 35 := tqU
instance : Fun Try.prog 36 := tqU
instance : Fun Try.prog 37 := tqU
instance : Fun Try.prog 38 := tqU
instance : Fun Try.prog 39 := tqU
instance : Fun Try.prog 40 := tqU
instance : Fun Try.prog 41 := tqU
instance : Fun Try.prog 42 := tqU
instance : Fun Try.prog 43 := tqU
instance : Fun Try.prog 44 := tqU
instance : Fun Try.prog 45 := tqU
instance : Fun Try.prog 46 := tqU
instance : Fun Try.prog 47 := tqU
instance : Fun Try.prog 48 := tqU
instance : Fun Try.prog 49 := tqU
instance : Fun Try.prog 50 := tqU
instance : Fun Try.prog 51 := tqU
instance : Fun Try.prog 52 := tqU
instance : Fun Try.prog 53 := tqU
instance : Fun Try.prog 54 := tqU
instance : Fun Try.prog 55 := tqU
instance : Fun Try.prog 56 := tqU
instance : Fun Try.prog 57 := tqU
instance : Fun Try.prog 58 := tqU
instance : Fun Try.prog 59 := tqU
instance : Fun Try.prog 60 := tqU
instance : Fun Try.prog 61 := tqU
instance : Fun Try.prog 62 := tqU
instance : Fun Try.prog 63 := tqU
instance : Fun Try.prog 64 := tqU
instance : Fun Try.prog 65 := tqU
instance : Fun Try.prog 66 := tqU
instance : Fun Try.prog 67 := tqU
instance : Fun Try.prog 68 := tqU
instance : Fun Try.prog 69 := tqU
instance : Fun Try.prog 70 := tqU
instance : Fun Try.prog 71 := tqU
instance : Fun Try.prog 72 := tqU
instance : Fun Try.prog 73 := tqU
instance : Fun Try.prog 74 := tqU
instance : Fun Try.prog 75 := tqU
instance : Fun Try.prog 76 := tqU
instance : Fun Try.prog 77 := tqU
instance : Fun Try.prog 78 := tqU
instance : Fun Try.prog 79 := tqU
instance : Fun Try.prog 80 := tqU
instance : Fun Try.prog 81 := tqU
instance : Fun Try.prog 82 := tqU
instance : Fun Try.prog 83 := tqU
instance : Fun Try.prog 84 := tqU
instance : Mixed Try.prog := ⟨by kernel_rfl⟩
end Go.Proofs.E
namespace Go.Proofs.E
open Go
set_option linter.unusedVariables false
set_option linter.unusedSimpArgs false
set_option linter.unusedSectionVars false
set_option maxRecDepth 4000
set_option maxHeartbeats 1000000
attribute [local irreducible] Yl TL TC TE Spec Xt R1 Hp.le EnvLe TS TR YS Zo
abbrev Blk := List UInt8
abbrev Yz := List (Blk × Option Blk)
def Yo (s : Yz) : List Value := (s.map fun p => p.1.map ZE).flatten
structure SecsOk (s : Yz) : Prop where
 len : s.length ≤ 2048
 pos : 0 < s.length
 held : ∀ p ∈ s, p.1.length = 64
 cached : ∀ p ∈ s, ∀ c, p.2 = some c → c.length = 64
def bv (b : Blk) : Value := .agg ⟨b.map ZE⟩
structure MapOk (s : Yz) (es : List MapEntry) : Prop where
 keys : YW .i64 es
 get : ∀ j : Int, Xj es j = if 0 ≤ j then ((s[j.toNat]?).bind (·.2)).map bv else none
structure HB where
 b : Nat
 cap : Nat
 sp : List Value
def dO (hb : HB) (mb n : Nat) (ops armed failing : Int) (dead : Bool) : Obj := .cells ⟨[.slice (some ⟨hb.b, 0, none⟩) n hb.cap, .map (some mb), .int .i64 ops, .int .i64 armed, .int .i64 failing, .bool dead]⟩ 61 (0, 0)
set_option maxHeartbeats 400000 in
set_option maxHeartbeats 400000 in
theorem lives_dead (ρ : Hp) (b : Nat) (hb : HB) (mb n : Nat) (ops armed failing : Int) : Spec Try.prog 48 [.pointer (some ⟨b, 0, none⟩)] ρ [[(b, dO hb mb n ops armed failing true)]] (fun v ρ' L' => v = .int .i64 9 ∧ ρ' = ρ ∧ L' = [[(b, dO hb mb n ops armed failing true)]]) := by
 refine Zd Try.func48 rfl rfl rfl fun u R => ?_
 simp only [Zw, List.cons_append, List.nil_append, dO]
 repeat' (first | (refine Zf ?_; first | (refine Ze ?_; refine qQ ?_) | refine Zk ?_) | refine Za ?_ | (refine Zg ?_; refine Zu ?_) | (refine Zh ?_; refine Zv ?_) | intro _)
 exact te_end rfl rfl rfl (by exact res1 rfl (r1_tmp rfl)) (Hp.le_refl _) (by infer_instance) (by infer_instance) ⟨rfl, rfl, rfl⟩
set_option maxHeartbeats 400000 in
theorem XN (ρ : Hp) (b : Nat) (hb : HB) (mb n : Nat) (ops armed failing : Int) : Spec Try.prog 48 [.pointer (some ⟨b, 0, none⟩)] ρ [[(b, dO hb mb n ops armed failing false)]] (fun v ρ' L' => v = .int .i64 0 ∧ ρ' = ρ ∧ L' = [[(b, dO hb mb n ops armed failing false)]]) := by
 refine Zd Try.func48 rfl rfl rfl fun u R => ?_
 simp only [Zw, List.cons_append, List.nil_append, dO]
 repeat' (first | (refine Zf ?_; first | (refine Ze ?_; refine qQ ?_) | refine Zk ?_) | refine Za ?_ | (refine Zg ?_; refine Zu ?_) | (refine Zh ?_; refine Zv ?_) | intro _)
 exact te_end rfl rfl rfl (by exact res1 rfl (r1_tmp rfl)) (Hp.le_refl _) (by infer_instance) (by infer_instance) ⟨rfl, rfl, rfl⟩
theorem counts_dO4 (ρ : Hp) (b : Nat) (hb : HB) (mb n : Nat) (ops armed failing : Int) (dead : Bool) (h1 : -1 ≤ failing) (h2 : failing ≤ 9223372036854775807) :
  Spec Try.prog 58 [.pointer (some ⟨b, 4, none⟩)] ρ [[(b, dO hb mb n ops armed failing dead)]] (fun v ρ' L' => v = .bool (failing == 0) ∧ ρ' = ρ ∧ L' = [[(b, dO hb mb n ops armed (max (failing-1) (-1)) dead)]]) := by
 refine Zd Try.func58 rfl rfl rfl fun u R => ?_
 simp only [Zw, List.cons_append, List.nil_append, dO]
 repeat' (first | (refine Zf ?_; first | (refine Ze ?_; refine qQ ?_) | refine Zk ?_) | refine Za ?_ | (refine Zg ?_; refine Zu ?_) | (refine Zh ?_; refine Zv ?_) | intro _)
 exact qE ⟨rfl, rfl, rfl⟩
theorem counts_dO3 (ρ : Hp) (b : Nat) (hb : HB) (mb n : Nat) (ops armed failing : Int) (dead : Bool) (h1 : -1 ≤ armed) (h2 : armed ≤ 9223372036854775807) :
  Spec Try.prog 58 [.pointer (some ⟨b, 3, none⟩)] ρ [[(b, dO hb mb n ops armed failing dead)]] (fun v ρ' L' => v = .bool (armed == 0) ∧ ρ' = ρ ∧ L' = [[(b, dO hb mb n ops (max (armed-1) (-1)) failing dead)]]) := by
 refine Zd Try.func58 rfl rfl rfl fun u R => ?_
 simp only [Zw, List.cons_append, List.nil_append, dO]
 repeat' (first | (refine Zf ?_; first | (refine Ze ?_; refine qQ ?_) | refine Zk ?_) | refine Za ?_ | (refine Zg ?_; refine Zu ?_) | (refine Zh ?_; refine Zv ?_) | intro _)
 exact qE ⟨rfl, rfl, rfl⟩
theorem does_dead (ρ : Hp) (b : Nat) (hb : HB) (mb n : Nat) (ops armed failing i : Int) (d l : Value) : Spec Try.prog 34 [.pointer (some ⟨b, 0, none⟩), .int .i64 i, d, l] ρ [[(b, dO hb mb n ops armed failing true)]]
  (fun v ρ' L' => v = .int .i64 9 ∧ ρ' = ρ ∧ L' = [[(b, dO hb mb n ops armed failing true)]]) := by
 refine Zd Try.func34 rfl rfl rfl fun u R => ?_
 simp only [Zw, List.cons_append, List.nil_append]
 repeat' (first | (refine Zb (.func 48) ?_; refine qC rfl rfl (lives_dead _ _ _ _ _ _ _ _) ?_; rintro v ρ' L' hle ⟨rfl, rfl, rfl⟩ <;> (try simp only [kM, kN, kO])) | (refine Zf ?_; first | (refine Ze ?_; refine qQ ?_) | refine Zk ?_) | refine Za ?_ | (refine Zg ?_; refine Zu ?_) | (refine Zh ?_; refine Zv ?_) | intro _)
 exact qE ⟨rfl, rfl, rfl⟩
theorem does_arg (ρ : Hp) (b : Nat) (hb : HB) (mb n : Nat) (ops armed failing i : Int) (d l : Value) (hi : i < 0 ∨ (n : Int) ≤ i) : Spec Try.prog 34 [.pointer (some ⟨b, 0, none⟩), .int .i64 i, d, l] ρ [[(b, dO hb mb n ops armed failing false)]]
  (fun v ρ' L' => v = .int .i64 2 ∧ ρ' = ρ ∧ L' = [[(b, dO hb mb n ops armed failing false)]]) := by
 refine Zd Try.func34 rfl rfl rfl fun u R => ?_
 simp only [Zw, List.cons_append, List.nil_append]
 by_cases h0 : i < 0
 ·repeat' (first | (refine Zb (.func 48) ?_; refine qC rfl rfl (XN _ _ _ _ _ _ _ _) ?_; rintro v ρ' L' hle ⟨rfl, rfl, rfl⟩ <;> (try simp only [kM, kN, kO, dO])) | (refine Zf ?_; first | (refine Ze ?_; refine qQ ?_) | refine Zk ?_) | refine Za ?_ | (refine Zg ?_; refine Zu ?_) | (refine Zh ?_; refine Zv ?_) | intro _)
  exact qE ⟨rfl, rfl, rfl⟩
 ·repeat' (first | (refine Zb (.func 48) ?_; refine qC rfl rfl (XN _ _ _ _ _ _ _ _) ?_; rintro v ρ' L' hle ⟨rfl, rfl, rfl⟩ <;> (try simp only [kM, kN, kO, dO])) | (refine Zf ?_; first | (refine Ze ?_; refine qQ ?_) | refine Zk ?_) | refine Za ?_ | (refine Zg ?_; refine Zu ?_) | (refine Zh ?_; refine Zv ?_) | intro _)
  exact qE ⟨rfl, rfl, rfl⟩
theorem does_ok_r (ρ : Hp) (b : Nat) (hb : HB) (mb n : Nat) (ops armed failing i : Int) (kd : Nat) (cd : List Value) (X : SH) (Post : Value → Hp → SH → Prop) (h0 : 0 ≤ i) (h1 : i < n) (hf : failing ≠ 0) (hf1 : -1 ≤ failing) (hf2 : failing ≤ 9223372036854775807) [hF : Fun Try.prog kd]
  (hd : Spec Try.prog kd cd ρ ([(b, dO hb mb n (IntKind.i64.wrap (ops + 1)) armed (max (failing - 1) (-1)) false)] :: X) Post) :
  Spec Try.prog 34 [.pointer (some ⟨b, 0, none⟩), .int .i64 i, .func (.func kd) ⟨[]⟩ ⟨cd⟩, .nilFunc] ρ ([(b, dO hb mb n ops armed failing false)] :: X) (fun v ρ' L' => v = .int .i64 0 ∧ ∃ v0, Post v0 ρ' L') := by
 refine Zd Try.func34 rfl rfl rfl fun u R => ?_
 simp only [Zw, List.cons_append, List.nil_append]
 repeat' (first | (refine Zb (.func 48) ?_; refine qC rfl rfl (XN _ _ _ _ _ _ _ _) ?_; rintro v ρ' L' hle ⟨rfl, rfl, rfl⟩ <;> (try simp only [kM, kN, kO, dO])) | (refine Zf ?_; first | (refine Ze ?_; refine qQ ?_) | refine Zk ?_) | refine Za ?_ | (refine Zg ?_; refine Zu ?_) | (refine Zh ?_; refine Zv ?_) | intro _)
 have hfb : (failing == 0) = false := by simpa using hf
 refine ZA (Zo _ _ ([])) (Zn (hT := tk) (Hp.le_refl _)) ?_
 all_goals (refine ZL 0 ?_; refine rNc 1 ?_; refine ZU 2 ?_; refine ZL 4 ?_; refine rCm 5 ?_)
 all_goals (refine Zp (i := 3) ?_; ((try refine Zl ?_); (first | (refine Zb (.func 58) ?_; refine qC rfl rfl (counts_dO4 _ _ _ _ _ _ _ _ _ hf1 hf2) ?_; rintro v ρ' L' hle ⟨rfl, rfl, rfl⟩ <;> (try simp only [kM, kN, kO, dO, hfb])) | (refine Zk ?_; try intro _)) <;> ((try simp only [kM, kN, kO]); refine Za ?_; refine Zm ?_)))
 all_goals (refine ZN ?_; refine ZL 6 ?_; (first | refine Zr 7 ?_ | refine Zj 7 ?_ | refine wMv 7 ?_); (first | refine Zr 8 ?_ | refine Zj 8 ?_ | refine wNc 8 ?_); (first | refine Zr 9 ?_ | refine Zj 9 ?_ | refine wFa 9 ?_); (first | refine Zr 10 ?_ | refine Zj 10 ?_ | refine wLd 10 ?_); (first | refine Zr 11 ?_ | refine Zj 11 ?_ | refine wCm 11 ?_); refine rPk 12 ?_; refine rAs 13 ?_; refine rAs 14 ?_; refine ZH ?_)
 unfold dO at hd
 repeat' (first | (refine Zb (.tmp 65) ?_; refine tl_call rfl rfl hd tk rfl ?_; rintro v ρ' L' hle hp) | (refine Zf ?_; first | (refine Ze ?_; refine qQ ?_) | refine Zk ?_) | refine Za ?_ | (refine Zg ?_; refine Zu ?_) | (refine Zh ?_; refine Zv ?_) | intro _)
 exact qE ⟨rfl, _, hp⟩
theorem does_ok_w (ρ : Hp) (b : Nat) (hb : HB) (mb n : Nat) (ops armed failing i : Int) (kd kl : Nat) (cd cl : List Value) (X : SH) (Post : Value → Hp → SH → Prop) (h0 : 0 ≤ i) (h1 : i < n) (hf : failing ≠ 0) (hf1 : -1 ≤ failing) (hf2 : failing ≤ 9223372036854775807)
  (ha : armed ≠ 0) (ha1 : -1 ≤ armed) (ha2 : armed ≤ 9223372036854775807) [hF : Fun Try.prog kd]
  (hd : Spec Try.prog kd cd ρ ([(b, dO hb mb n (IntKind.i64.wrap (ops + 1)) (max (armed - 1) (-1)) (max (failing - 1) (-1)) false)] :: X) Post) :
  Spec Try.prog 34 [.pointer (some ⟨b, 0, none⟩), .int .i64 i, .func (.func kd) ⟨[]⟩ ⟨cd⟩, .func (.func kl) ⟨[]⟩ ⟨cl⟩] ρ ([(b, dO hb mb n ops armed failing false)] :: X) (fun v ρ' L' => v = .int .i64 0 ∧ ∃ v0, Post v0 ρ' L') := by
 refine Zd Try.func34 rfl rfl rfl fun u R => ?_
 simp only [Zw, List.cons_append, List.nil_append]
 repeat' (first | (refine Zb (.func 48) ?_; refine qC rfl rfl (XN _ _ _ _ _ _ _ _) ?_; rintro v ρ' L' hle ⟨rfl, rfl, rfl⟩ <;> (try simp only [kM, kN, kO, dO])) | (refine Zf ?_; first | (refine Ze ?_; refine qQ ?_) | refine Zk ?_) | refine Za ?_ | (refine Zg ?_; refine Zu ?_) | (refine Zh ?_; refine Zv ?_) | intro _)
 have hfb : (failing == 0) = false := by simpa using hf
 refine ZA (Zo _ _ ([])) (Zn (hT := tk) (Hp.le_refl _)) ?_
 all_goals (refine ZL 0 ?_; refine rNc 1 ?_; refine ZU 2 ?_; refine ZL 4 ?_; refine rCm 5 ?_)
 all_goals (refine Zp (i := 3) ?_; ((try refine Zl ?_); (first | (refine Zb (.func 58) ?_; refine qC rfl rfl (counts_dO4 _ _ _ _ _ _ _ _ _ hf1 hf2) ?_; rintro v ρ' L' hle ⟨rfl, rfl, rfl⟩ <;> (try simp only [kM, kN, kO, dO, hfb])) | (refine Zk ?_; try intro _)) <;> ((try simp only [kM, kN, kO]); refine Za ?_; refine Zm ?_)))
 all_goals (refine ZN ?_; refine ZL 6 ?_; (first | refine Zr 7 ?_ | refine Zj 7 ?_ | refine wMv 7 ?_); (first | refine Zr 8 ?_ | refine Zj 8 ?_ | refine wNc 8 ?_); (first | refine Zr 9 ?_ | refine Zj 9 ?_ | refine wFa 9 ?_); (first | refine Zr 10 ?_ | refine Zj 10 ?_ | refine wLd 10 ?_); (first | refine Zr 11 ?_ | refine Zj 11 ?_ | refine wCm 11 ?_); refine rPk 12 ?_; refine rAs 13 ?_; refine rAs 14 ?_; refine ZH ?_)
 unfold dO at hd
 repeat' (first | (refine Zb (.func 58) ?_; refine qC rfl rfl (counts_dO3 _ _ _ _ _ _ _ _ _ ha1 ha2) ?_; rintro v ρ' L' hle ⟨rfl, rfl, rfl⟩ <;> (try simp only [kM, kN, kO, dO])) | (refine Zb (.tmp 65) ?_; refine tl_call rfl rfl hd tk rfl ?_; rintro v ρ' L' hle hp) | (refine Zf ?_; first | (refine Ze ?_; refine qQ ?_) | refine Zk ?_) | refine Za ?_ | (refine Zg ?_; refine Zu ?_) | (refine Zh ?_; refine Zv ?_) | intro _)
 exact qE ⟨rfl, _, hp⟩
theorem does_fail_r (ρ : Hp) (b : Nat) (hb : HB) (mb n : Nat) (ops armed i : Int) (d : Value) (h0 : 0 ≤ i) (h1 : i < n) :
  Spec Try.prog 34 [.pointer (some ⟨b, 0, none⟩), .int .i64 i, d, .nilFunc] ρ [[(b, dO hb mb n ops armed 0 false)]] (fun v ρ' L' => v = .int .i64 8 ∧ ρ' = ρ ∧ L' = [[(b, dO hb mb n (IntKind.i64.wrap (ops + 1)) armed (-1) false)]]) := by
 refine Zd Try.func34 rfl rfl rfl fun u R => ?_
 simp only [Zw, List.cons_append, List.nil_append]
 repeat' (first | (refine Zb (.func 48) ?_; refine qC rfl rfl (XN _ _ _ _ _ _ _ _) ?_; rintro v ρ' L' hle ⟨rfl, rfl, rfl⟩ <;> (try simp only [kM, kN, kO, dO])) | (refine Zf ?_; first | (refine Ze ?_; refine qQ ?_) | refine Zk ?_) | refine Za ?_ | (refine Zg ?_; refine Zu ?_) | (refine Zh ?_; refine Zv ?_) | intro _)
 refine ZA (Zo _ _ ([])) (Zn (hT := tk) (Hp.le_refl _)) ?_
 all_goals (refine ZL 0 ?_; refine rNc 1 ?_; refine ZU 2 ?_; refine ZL 4 ?_; refine rCm 5 ?_)
 all_goals (refine Zp (i := 3) ?_; ((try refine Zl ?_); (first | (refine Zb (.func 58) ?_; refine qC rfl rfl (counts_dO4 _ _ _ _ _ _ _ 0 _ (by decide) (by decide)) ?_; rintro v ρ' L' hle ⟨rfl, rfl, rfl⟩ <;> (try simp only [kM, kN, kO, dO])) | (refine Zk ?_; try intro _)) <;> ((try simp only [kM, kN, kO]); refine Za ?_; refine Zm ?_)))
 all_goals (refine ZN ?_; refine ZL 6 ?_; (first | refine Zr 7 ?_ | refine Zj 7 ?_ | refine wMv 7 ?_); (first | refine Zr 8 ?_ | refine Zj 8 ?_ | refine wNc 8 ?_); (first | refine Zr 9 ?_ | refine Zj 9 ?_ | refine wFa 9 ?_); (first | refine Zr 10 ?_ | refine Zj 10 ?_ | refine wLd 10 ?_); (first | refine Zr 11 ?_ | refine Zj 11 ?_ | refine wCm 11 ?_); refine rPk 12 ?_; refine rAs 13 ?_; refine rAs 14 ?_; refine ZH ?_)
 repeat' (first | (refine Zf ?_; first | (refine Ze ?_; refine qQ ?_) | refine Zk ?_) | refine Za ?_ | (refine Zg ?_; refine Zu ?_) | (refine Zh ?_; refine Zv ?_) | intro _)
 exact qE ⟨rfl, rfl, rfl⟩
theorem does_fail_w (ρ : Hp) (b : Nat) (hb : HB) (mb n : Nat) (ops armed i : Int) (d : Value) (kl : Nat) (cl : List Value) (h0 : 0 ≤ i) (h1 : i < n) (ha : armed ≠ 0) :
  Spec Try.prog 34 [.pointer (some ⟨b, 0, none⟩), .int .i64 i, d, .func (.func kl) ⟨[]⟩ ⟨cl⟩] ρ [[(b, dO hb mb n ops armed 0 false)]] (fun v ρ' L' => v = .int .i64 8 ∧ ρ' = ρ ∧ L' = [[(b, dO hb mb n (IntKind.i64.wrap (ops + 1)) armed (-1) false)]]) := by
 refine Zd Try.func34 rfl rfl rfl fun u R => ?_
 simp only [Zw, List.cons_append, List.nil_append]
 repeat' (first | (refine Zb (.func 48) ?_; refine qC rfl rfl (XN _ _ _ _ _ _ _ _) ?_; rintro v ρ' L' hle ⟨rfl, rfl, rfl⟩ <;> (try simp only [kM, kN, kO, dO])) | (refine Zf ?_; first | (refine Ze ?_; refine qQ ?_) | refine Zk ?_) | refine Za ?_ | (refine Zg ?_; refine Zu ?_) | (refine Zh ?_; refine Zv ?_) | intro _)
 refine ZA (Zo _ _ ([])) (Zn (hT := tk) (Hp.le_refl _)) ?_
 all_goals (refine ZL 0 ?_; refine rNc 1 ?_; refine ZU 2 ?_; refine ZL 4 ?_; refine rCm 5 ?_)
 all_goals (refine Zp (i := 3) ?_; ((try refine Zl ?_); (first | (refine Zb (.func 58) ?_; refine qC rfl rfl (counts_dO4 _ _ _ _ _ _ _ 0 _ (by decide) (by decide)) ?_; rintro v ρ' L' hle ⟨rfl, rfl, rfl⟩ <;> (try simp only [kM, kN, kO, dO])) | (refine Zk ?_; try intro _)) <;> ((try simp only [kM, kN, kO]); refine Za ?_; refine Zm ?_)))
 all_goals (refine ZN ?_; refine ZL 6 ?_; (first | refine Zr 7 ?_ | refine Zj 7 ?_ | refine wMv 7 ?_); (first | refine Zr 8 ?_ | refine Zj 8 ?_ | refine wNc 8 ?_); (first | refine Zr 9 ?_ | refine Zj 9 ?_ | refine wFa 9 ?_); (first | refine Zr 10 ?_ | refine Zj 10 ?_ | refine wLd 10 ?_); (first | refine Zr 11 ?_ | refine Zj 11 ?_ | refine wCm 11 ?_); refine rPk 12 ?_; refine rAs 13 ?_; refine rAs 14 ?_; refine ZH ?_)
 repeat' (first | (refine Zf ?_; first | (refine Ze ?_; refine qQ ?_) | refine Zk ?_) | refine Za ?_ | (refine Zg ?_; refine Zu ?_) | (refine Zh ?_; refine Zv ?_) | intro _)
 exact qE ⟨rfl, rfl, rfl⟩
theorem does_dies (ρ : Hp) (b : Nat) (hb : HB) (mb n : Nat) (ops failing i : Int) (d : Value) (kl : Nat) (cl : List Value) (X : SH) (Post : Value → Hp → SH → Prop) (h0 : 0 ≤ i) (h1 : i < n) (hf1 : -1 ≤ failing) (hf2 : failing ≤ 9223372036854775807) [hF : Fun Try.prog kl]
  (hd : Spec Try.prog kl cl ρ ([(b, dO hb mb n (IntKind.i64.wrap (ops + 1)) 0 (max (failing - 1) (-1)) true)] :: X) Post) :
  Spec Try.prog 34 [.pointer (some ⟨b, 0, none⟩), .int .i64 i, d, .func (.func kl) ⟨[]⟩ ⟨cl⟩] ρ ([(b, dO hb mb n ops 0 failing false)] :: X) (fun v ρ' L' => v = .int .i64 9 ∧ ∃ v0, Post v0 ρ' L') := by
 refine Zd Try.func34 rfl rfl rfl fun u R => ?_
 simp only [Zw, List.cons_append, List.nil_append]
 repeat' (first | (refine Zb (.func 48) ?_; refine qC rfl rfl (XN _ _ _ _ _ _ _ _) ?_; rintro v ρ' L' hle ⟨rfl, rfl, rfl⟩ <;> (try simp only [kM, kN, kO, dO])) | (refine Zf ?_; first | (refine Ze ?_; refine qQ ?_) | refine Zk ?_) | refine Za ?_ | (refine Zg ?_; refine Zu ?_) | (refine Zh ?_; refine Zv ?_) | intro _)
 refine ZA (Zo _ _ ([])) (Zn (hT := tk) (Hp.le_refl _)) ?_
 all_goals (refine ZL 0 ?_; refine rNc 1 ?_; refine ZU 2 ?_; refine ZL 4 ?_; refine rCm 5 ?_)
 all_goals (refine Zp (i := 3) ?_; ((try refine Zl ?_); (first | (refine Zb (.func 58) ?_; refine qC rfl rfl (counts_dO4 _ _ _ _ _ _ _ _ _ hf1 hf2) ?_; rintro v ρ' L' hle ⟨rfl, rfl, rfl⟩ <;> (try simp only [kM, kN, kO, dO])) | (refine Zk ?_; try intro _)) <;> ((try simp only [kM, kN, kO]); refine Za ?_; refine Zm ?_)))
 all_goals (refine ZN ?_; refine ZL 6 ?_; (first | refine Zr 7 ?_ | refine Zj 7 ?_ | refine wMv 7 ?_); (first | refine Zr 8 ?_ | refine Zj 8 ?_ | refine wNc 8 ?_); (first | refine Zr 9 ?_ | refine Zj 9 ?_ | refine wFa 9 ?_); (first | refine Zr 10 ?_ | refine Zj 10 ?_ | refine wLd 10 ?_); (first | refine Zr 11 ?_ | refine Zj 11 ?_ | refine wCm 11 ?_); refine rPk 12 ?_; refine rAs 13 ?_; refine rAs 14 ?_; refine ZH ?_)
 unfold dO at hd
 repeat' (first | (refine Zb (.tmp 55) ?_; refine tl_call rfl rfl hd tk rfl ?_; rintro v ρ' L' hle hp) | (refine Zf ?_; first | (refine Ze ?_; refine qQ ?_) | refine Zk ?_) | refine Za ?_ | (refine Zg ?_; refine Zu ?_) | (refine Zh ?_; refine Zv ?_) | intro _)
 exact qE ⟨rfl, _, hp⟩
end Go.Proofs.E
namespace Go.Proofs.E
open Go
set_option linter.unusedVariables false
set_option linter.unusedSimpArgs false
set_option linter.unusedSectionVars false
set_option maxRecDepth 4000
set_option maxHeartbeats 1000000
attribute [local irreducible] Yl TL TC TE Spec Xt R1 Hp.le EnvLe TS TR YS Zo
theorem heldC_length {s : Yz} (h : ∀ p ∈ s, p.1.length = 64) : (Yo s).length = s.length * 64 := by
 induction s with
 | nil => rfl
 | cons p r ih =>
  have h1 := h p (by simp)
  have h2 := ih (fun q hq => h q (by simp [hq]))
  simp only [Yo, List.map_cons, List.flatten_cons, List.length_append, List.length_map, List.length_cons] at *
  omega
theorem heldC_take : ∀ {s : Yz} {i : Nat} (h : ∀ p ∈ s, p.1.length = 64) (hi : i < s.length), ((Yo s).drop (i * 64)).take 64 = (s[i].1).map ZE
 | [], i, h, hi => by simp at hi
 | p :: r, 0, h, hi => by
  have h1 := h p (by simp)
  simp only [Yo, List.map_cons, List.flatten_cons, Nat.zero_mul, List.drop_zero, List.getElem_cons_zero]
  rw [List.take_append_of_le_length (by simp [h1]), List.take_of_length_le (by simp [h1])]
 | p :: r, i + 1, h, hi => by
  have h1 := h p (by simp)
  have ih := heldC_take (s := r) (i := i) (fun q hq => h q (by simp [hq])) (by simpa using hi)
  simp only [Yo, List.map_cons, List.flatten_cons, List.getElem_cons_succ] at ih ⊢
  have e : (i + 1) * 64 = (p.1.map ZE).length + i * 64 := by simp [h1]; omega
  rw [e, ← List.drop_drop, List.drop_left]
  exact ih
theorem stc_heldC : ∀ {s : Yz} {i : Nat} {b : Blk} (x : Option Blk) (h : ∀ p ∈ s, p.1.length = 64) (hb : b.length = 64) (hi : i < s.length), stc (Yo s) (i * 64) (b.map ZE) = Yo (s.set i (b, x))
 | [], i, b, x, h, hb, hi => by simp at hi
 | p :: r, 0, b, x, h, hb, hi => by
  have h1 := h p (by simp)
  simp only [stc, Yo, List.map_cons, List.flatten_cons, Nat.zero_mul, List.take_zero, List.nil_append, Nat.zero_add, List.set_cons_zero]
  congr 1
  have e : (b.map ZE).length = (p.1.map ZE).length := by simp [hb, h1]
  rw [e, List.drop_left]
 | p :: r, i + 1, b, x, h, hb, hi => by
  have h1 := h p (by simp)
  have ih := stc_heldC (s := r) (i := i) (b := b) x (fun q hq => h q (by simp [hq])) hb (by simpa using hi)
  simp only [stc, Yo, List.map_cons, List.flatten_cons, List.set_cons_succ] at ih ⊢
  have e : (i + 1) * 64 = (p.1.map ZE).length + i * 64 := by simp [h1]; omega
  rw [e, List.take_length_add_append, Nat.add_assoc, ← List.drop_drop, List.drop_left, ← ih]
  simp
theorem heldC_take' {s : Yz} {i : Nat} (sp : List Value) (h : ∀ p ∈ s, p.1.length = 64) (hi : i < s.length) : ((Yo s ++ sp).drop (i * 64)).take 64 = (s[i].1).map ZE := by
 have hl := heldC_length h
 rw [List.drop_append_of_le_length (by omega), List.take_append_of_le_length (by simp; omega)]
 exact heldC_take h hi
theorem stc_heldC' {s : Yz} {i : Nat} {b : Blk} (sp : List Value) (x : Option Blk) (h : ∀ p ∈ s, p.1.length = 64) (hb : b.length = 64) (hi : i < s.length) : stc (Yo s ++ sp) (i * 64) (b.map ZE) = Yo (s.set i (b, x)) ++ sp := by
 have hl := heldC_length h
 rw [← stc_heldC x h hb hi]
 unfold stc
 rw [List.take_append_of_le_length (by omega), List.drop_append_of_le_length (by simp; omega)]
 simp
theorem heldC_length' {s : Yz} (sp : List Value) (h : ∀ p ∈ s, p.1.length = 64) : (Yo s ++ sp).length = s.length * 64 + sp.length := by
 rw [List.length_append, heldC_length h]
def putC (s : Yz) (i : Nat) (b : Blk) : Yz := s.set i ((s[i]?.getD ([], none)).1, some b)
theorem YN {s : Yz} {i b} : (putC s i b).length = s.length := by simp [putC]
theorem heldC_putC {s : Yz} {i : Nat} {b : Blk} (hi : i < s.length) : Yo (putC s i b) = Yo s := by
 unfold Yo putC
 rw [List.map_set]
 congr 1
 apply List.ext_getElem? ; intro j
 rw [List.getElem?_set]
 by_cases e : i = j
 ·subst e; simp [hi]
 ·simp [e]
theorem SecsOk.putC {s : Yz} {i : Nat} {b : Blk} (h : SecsOk s) (hb : b.length = 64) (hi : i < s.length) : SecsOk (putC s i b) := by
 have hm : ∀ p ∈ E.putC s i b, p ∈ s ∨ p = (s[i].1, some b) := fun p hp => by
  unfold E.putC at hp
  rcases List.mem_or_eq_of_mem_set hp with h1 | h1
  ·exact .inl h1
  ·right; rw [h1]; simp [hi]
 refine ⟨by rw [YN]; exact h.len, by rw [YN]; exact h.pos, fun p hp => ?_, fun p hp c hc => ?_⟩
 ·rcases hm p hp with h1 | rfl
  ·exact h.held p h1
  ·exact h.held s[i] (List.getElem_mem hi)
 ·rcases hm p hp with h1 | rfl
  ·exact h.cached p h1 c hc
  ·simp only [Option.some.injEq] at hc; subst hc; exact hb
theorem MapOk.put {s : Yz} {es es' : List MapEntry} {i : Int} {b : Blk} (h : MapOk s es) (h0 : 0 ≤ i) (hi : i < s.length) (hk : YW .i64 es') (hg : ∀ j, Xj es' j = if j = i then some (bv b) else Xj es j) : MapOk (putC s i.toNat b) es' := by
 refine ⟨hk, fun j => ?_⟩
 rw [hg]
 by_cases e : j = i
 ·subst e
  have : j.toNat < s.length := by omega
  simp [putC, h0, this]
 ·rw [if_neg e, h.get]
  by_cases h1 : 0 ≤ j
  ·have hne : i.toNat ≠ j.toNat := by omega
   simp only [h1, if_true, putC]
   rw [List.getElem?_set_ne hne]
  ·simp [h1]
def says1 (p : Blk × Option Blk) : Blk := p.2.getD p.1
theorem MapOk.at {s : Yz} {es : List MapEntry} (h : MapOk s es) {i : Nat} (hi : i < s.length) : Xj es i = (s[i].2).map bv := by
 rw [h.get]; simp [hi]
def XA (s : Yz) : Prop := ∀ p ∈ s, p.2 = none
theorem MapOk.empty {s : Yz} (h : XA s) : MapOk s [] := by
 refine ⟨fun e he => by simp at he, fun j => ?_⟩
 by_cases h1 : 0 ≤ j
 ·simp only [h1, if_true, Xj, List.find?_nil, Option.map_none]
  cases hs : s[j.toNat]? with
  | none => simp
  | some p => simp [h p (List.mem_of_getElem? hs)]
 ·simp [Xj, h1]
structure DS where
 secs : Yz
 ops : Int
 armed : Int
 failing : Int
 dead : Bool
structure DS.Ok (D : DS) : Prop where
 secs : SecsOk D.secs
 a1 : -1 ≤ D.armed
 a2 : D.armed ≤ 9223372036854775807
 f1 : -1 ≤ D.failing
 f2 : D.failing ≤ 9223372036854775807
def Yw (b : Nat) (hb : HB) (mb : Nat) (es : List MapEntry) (ck : Nat) (D : DS) : SH := [[(b, dO hb mb D.secs.length D.ops D.armed D.failing D.dead)], [(hb.b, .cells ⟨Yo D.secs ++ hb.sp⟩ 48 (0, 0))], [(mb, .map ⟨es⟩ ck)]]
def cnt (n : Int) : Int := max (n - 1) (-1)
def DS.tick (D : DS) : DS := { D with ops := IntKind.i64.wrap (D.ops + 1), failing := cnt D.failing }
theorem write1 (ρ : Hp) (b : Nat) (hb : HB) (mb xb pb ib n : Nat) (ops armed failing i : Int) (dead : Bool) (es : List MapEntry) (ck : Nat) (blk : Blk) (hb64 : blk.length = 64) (hk : YW .i64 es) :
  Spec Try.prog 75 [.pointer (some ⟨xb, 0, none⟩), .pointer (some ⟨pb, 0, none⟩), .pointer (some ⟨ib, 0, none⟩)] ρ
   [[(b, dO hb mb n ops armed failing dead)], [(mb, .map ⟨es⟩ ck)], [(xb, .cells ⟨blk.map ZE⟩ 48 (0, 0))], [(pb, .cells ⟨[.pointer (some ⟨b, 0, none⟩)]⟩ 24 (0, 0))], [(ib, .cells ⟨[.int .i64 i]⟩ 3 (0, 0))]]
   (fun v ρ' L' => v = .tuple ⟨[]⟩ ∧ ρ' = ρ ∧ ∃ es' ck', YW .i64 es' ∧ (∀ j, Xj es' j = if j = i then some (bv blk) else Xj es j) ∧
    L' = [[(b, dO hb mb n ops armed failing dead)], [(mb, .map ⟨es'⟩ ck')], [(xb, .cells ⟨blk.map ZE⟩ 48 (0, 0))], [(pb, .cells ⟨[.pointer (some ⟨b, 0, none⟩)]⟩ 24 (0, 0))], [(ib, .cells ⟨[.int .i64 i]⟩ 3 (0, 0))]]) := by
 refine Zd Try.func75 rfl rfl rfl fun u R => ?_
 simp only [Zw, List.cons_append, List.nil_append, dO]
 have hl : (blk.map ZE).length = 64 := by simpa using hb64
 repeat' (first | (refine Zf ?_; first | (refine Ze ?_; refine qQ ?_) | refine Zk ?_) | refine Za ?_ | (refine Zg ?_; refine Zu ?_) | (refine Zh ?_; refine Zv ?_) | intro _)
 refine tc_draw 6 (by decide +kernel) (by decide +kernel) ?_
 repeat' (first | (refine jLd ?_; refine sLd ?_) | (refine jFa ?_; refine sFa ?_) | (refine jNc ?_; refine sNc ?_) | (refine j_gd ?_; first | refine sWant ?_ | refine sSkip ?_ | refine sSkipU ?_))
 all_goals refine ts_nil ?_
 refine tl_mapUpdate rfl rfl rfl hk (fun es' ck' h1 h2 => ?_)
 repeat' (first | (refine Zf ?_; first | (refine Ze ?_; refine qQ ?_) | refine Zk ?_) | refine Za ?_ | (refine Zg ?_; refine Zu ?_) | (refine Zh ?_; refine Zv ?_) | intro _)
 exact qE ⟨rfl, rfl, es', ck', h1, h2, rfl⟩
def DS.write (D : DS) (i : Int) (blk : Blk) : DS × Int :=
 if D.dead then (D, 9) else if i < 0 ∨ (D.secs.length : Int) ≤ i then (D, 2)
 else if D.armed = 0 then ({ D.tick with dead := true, secs := putC D.secs i.toNat blk }, 9)
 else if D.failing = 0 then (D.tick, 8)
 else ({ D.tick with armed := cnt D.armed, secs := putC D.secs i.toNat blk }, 0)
theorem dwrite_spec (ρ : Hp) (b : Nat) (hb : HB) (mb : Nat) (es : List MapEntry) (ck : Nat) (D : DS) (i : Int) (blk : Blk) (hb64 : blk.length = 64) (hD : D.Ok) (hm : MapOk D.secs es) :
  Spec Try.prog 59 [.pointer (some ⟨b, 0, none⟩), .int .i64 i, bv blk] ρ (Yw b hb mb es ck D)
   (fun v ρ' L' => v = .int .i64 (D.write i blk).2 ∧ ρ' = ρ ∧ ∃ es' ck', MapOk (D.write i blk).1.secs es' ∧ L' = Yw b hb mb es' ck' (D.write i blk).1) := by
 obtain ⟨s, ops, armed, failing, dead⟩ := D
 obtain ⟨hs, a1, a2, f1, f2⟩ := hD
 dsimp only at hs a1 a2 f1 f2 hm
 have hl : (blk.map ZE).length = 64 := by simpa using hb64
 have hk := hm.keys
 cases dead with
 | true =>
  have he : DS.write ⟨s, ops, armed, failing, true⟩ i blk = (⟨s, ops, armed, failing, true⟩, 9) := by simp [DS.write]
  simp only [he]
  refine Zd Try.func59 rfl rfl rfl fun u R => ?_
  simp only [Zw, List.cons_append, List.nil_append, Yw, bv]
  repeat' (first | (refine Zb (.func 34) ?_; refine qC rfl rfl (does_dead _ _ _ _ _ _ _ _ _ _ _) ?_; rintro v ρ' L' hle ⟨rfl, rfl, rfl⟩ <;> (try simp only [kM, kN, kO])) | (refine Zf ?_; first | (refine Ze ?_; refine qQ ?_) | refine Zk ?_) | refine Za ?_ | (refine Zg ?_; refine Zu ?_) | (refine Zh ?_; refine Zv ?_) | intro _)
  exact qE ⟨rfl, rfl, es, ck, hm, rfl⟩
 | false =>
  by_cases hi : i < 0 ∨ (s.length : Int) ≤ i
  ·have he : DS.write ⟨s, ops, armed, failing, false⟩ i blk = (⟨s, ops, armed, failing, false⟩, 2) := by simp [DS.write, hi]
   simp only [he]
   refine Zd Try.func59 rfl rfl rfl fun u R => ?_
   simp only [Zw, List.cons_append, List.nil_append, Yw, bv]
   repeat' (first | (refine Zb (.func 34) ?_; refine qC rfl rfl (does_arg _ _ _ _ _ _ _ _ _ _ _ hi) ?_; rintro v ρ' L' hle ⟨rfl, rfl, rfl⟩ <;> (try simp only [kM, kN, kO])) | (refine Zf ?_; first | (refine Ze ?_; refine qQ ?_) | refine Zk ?_) | refine Za ?_ | (refine Zg ?_; refine Zu ?_) | (refine Zh ?_; refine Zv ?_) | intro _)
   exact qE ⟨rfl, rfl, es, ck, hm, rfl⟩
  ·have hi0 : 0 ≤ i := by omega
   have hi1 : i < s.length := by omega
   have hlen : (putC s i.toNat blk).length = s.length := YN
   have hheld : Yo (putC s i.toNat blk) = Yo s := heldC_putC (by omega)
   by_cases ha : armed = 0
   ·subst ha
    have he : DS.write ⟨s, ops, 0, failing, false⟩ i blk = (⟨putC s i.toNat blk, IntKind.i64.wrap (ops + 1), 0, cnt failing, true⟩, 9) := by simp [DS.write, hi, DS.tick]
    simp only [he]
    refine Zd Try.func59 rfl rfl rfl fun u R => ?_
    simp only [Zw, List.cons_append, List.nil_append, Yw, bv, hlen, hheld]
    repeat' (first | (refine Zb (.func 34) ?_; refine qC rfl rfl (does_dies _ _ _ _ _ _ _ _ _ _ _ _ _ hi0 hi1 f1 f2 (write1 _ _ _ _ _ _ _ _ _ _ _ _ _ _ _ blk hb64 hk)) ?_; rintro v ρ' L' hle ⟨rfl, v0, h0, rfl, es', ck', h1, h2, rfl⟩ <;> (try simp only [kM, kN, kO])) | (refine Zf ?_; first | (refine Ze ?_; refine qQ ?_) | refine Zk ?_) | refine Za ?_ | (refine Zg ?_; refine Zu ?_) | (refine Zh ?_; refine Zv ?_) | intro _)
    exact qE ⟨rfl, rfl, es', ck', hm.put hi0 hi1 h1 h2, rfl⟩
   ·by_cases hf : failing = 0
    ·subst hf
     have he : DS.write ⟨s, ops, armed, 0, false⟩ i blk = (⟨s, IntKind.i64.wrap (ops + 1), armed, -1, false⟩, 8) := by simp [DS.write, hi, DS.tick, ha, cnt]
     simp only [he]
     refine Zd Try.func59 rfl rfl rfl fun u R => ?_
     simp only [Zw, List.cons_append, List.nil_append, Yw, bv]
     repeat' (first | (refine Zb (.func 34) ?_; refine qC rfl rfl (does_fail_w _ _ _ _ _ _ _ _ _ _ _ hi0 hi1 ha) ?_; rintro v ρ' L' hle ⟨rfl, rfl, rfl⟩ <;> (try simp only [kM, kN, kO])) | (refine Zf ?_; first | (refine Ze ?_; refine qQ ?_) | refine Zk ?_) | refine Za ?_ | (refine Zg ?_; refine Zu ?_) | (refine Zh ?_; refine Zv ?_) | intro _)
     exact qE ⟨rfl, rfl, es, ck, hm, rfl⟩
    ·have he : DS.write ⟨s, ops, armed, failing, false⟩ i blk = (⟨putC s i.toNat blk, IntKind.i64.wrap (ops + 1), cnt armed, cnt failing, false⟩, 0) := by simp [DS.write, hi, DS.tick, ha, hf]
     simp only [he]
     refine Zd Try.func59 rfl rfl rfl fun u R => ?_
     simp only [Zw, List.cons_append, List.nil_append, Yw, bv, hlen, hheld]
     repeat' (first | (refine Zb (.func 34) ?_; refine qC rfl rfl (does_ok_w _ _ _ _ _ _ _ _ _ _ _ _ _ _ _ hi0 hi1 hf f1 f2 ha a1 a2 (write1 _ _ _ _ _ _ _ _ _ _ _ _ _ _ _ blk hb64 hk)) ?_; rintro v ρ' L' hle ⟨rfl, v0, h0, rfl, es', ck', h1, h2, rfl⟩ <;> (try simp only [kM, kN, kO])) | (refine Zf ?_; first | (refine Ze ?_; refine qQ ?_) | refine Zk ?_) | refine Za ?_ | (refine Zg ?_; refine Zu ?_) | (refine Zh ?_; refine Zv ?_) | intro _)
     exact qE ⟨rfl, rfl, es', ck', hm.put hi0 hi1 h1 h2, rfl⟩
theorem read1 (ρ : Hp) (b : Nat) (hb : HB) (mb pb ib rb : Nat) (s : Yz) (ops armed failing : Int) (i : Nat) (dead : Bool) (es : List MapEntry) (ck : Nat) (r : List Value) (hr : r.length = 64) (hs : SecsOk s) (hm : MapOk s es) (hi : i < s.length) :
  Spec Try.prog 35 [.pointer (some ⟨pb, 0, none⟩), .pointer (some ⟨ib, 0, none⟩), .pointer (some ⟨rb, 0, none⟩)] ρ
   [[(b, dO hb mb s.length ops armed failing dead)], [(hb.b, .cells ⟨Yo s ++ hb.sp⟩ 48 (0, 0))], [(mb, .map ⟨es⟩ ck)], [(pb, .cells ⟨[.pointer (some ⟨b, 0, none⟩)]⟩ 24 (0, 0))], [(ib, .cells ⟨[.int .i64 i]⟩ 3 (0, 0))], [(rb, .cells ⟨r⟩ 48 (0, 0))]]
   (fun v ρ' L' => v = .tuple ⟨[]⟩ ∧ ρ' = ρ ∧ L' = [[(b, dO hb mb s.length ops armed failing dead)], [(hb.b, .cells ⟨Yo s ++ hb.sp⟩ 48 (0, 0))], [(mb, .map ⟨es⟩ ck)], [(pb, .cells ⟨[.pointer (some ⟨b, 0, none⟩)]⟩ 24 (0, 0))], [(ib, .cells ⟨[.int .i64 i]⟩ 3 (0, 0))], [(rb, .cells ⟨(says1 s[i]).map ZE⟩ 48 (0, 0))]]) := by
 have hk := hm.keys
 have hat := hm.at hi
 have hh : (s[i].1.map ZE).length = 64 := by simpa using hs.held s[i] (List.getElem_mem hi)
 have ht : ((Yo s ++ hb.sp).drop (0 + i * 64)).take 64 = (s[i].1).map ZE := by rw [Nat.zero_add]; exact heldC_take' hb.sp hs.held hi
 have hlen := heldC_length' hb.sp hs.held
 have o1 := ZM
 cases hc : s[i].2 with
 | none =>
  have hsay : says1 s[i] = s[i].1 := by simp [says1, hc]
  rw [hc] at hat
  simp only [Option.map_none] at hat
  have hone := ZM s[i].1
  refine Zd Try.func35 rfl rfl rfl fun u R => ?_
  simp only [Zw, List.cons_append, List.nil_append, dO, hsay]
  repeat' (first | (refine Zf ?_; first | (refine Ze ?_; refine qQ ?_) | refine Zk ?_) | refine Za ?_ | (refine Zg ?_; refine Zu ?_) | (refine Zh ?_; refine Zv ?_) | intro _)
  refine ZA (Zo _ _ _) stays_refl ?_
  all_goals (refine ZX 0 ?_; refine rNc 1 ?_; refine ZU 2 ?_; refine ZX 3 ?_; refine ZX 4 ?_; refine rLu 5 ?_; refine ZL 6 ?_; refine rEx 7 ?_; refine rEx 8 ?_)
  all_goals (refine Zp (i := 9) ?_; ((try refine Zl ?_); (first | (refine Zk ?_; try intro _)) <;> ((try simp only [kM, kN, kO]); refine Za ?_; refine Zm ?_)))
  all_goals (refine Zp (i := 10) ?_; ((try refine Zl ?_); (first | (refine Zk ?_; try intro _)) <;> ((try simp only [kM, kN, kO]); refine Za ?_; refine Zm ?_)))
  all_goals (refine ZN ?_; refine rAs 11 ?_; refine ZH ?_)
  repeat' (first | (refine Zf ?_; first | (refine Ze ?_; refine qQ ?_) | refine Zk ?_) | refine Za ?_ | (refine Zg ?_; refine Zu ?_) | (refine Zh ?_; refine Zv ?_) | intro _)
  refine tc_draw 7 (by decide +kernel) (by decide +kernel) ?_
  repeat' (first | (refine jLd ?_; refine sLd ?_) | (refine jFa ?_; refine sFa ?_) | (refine jNc ?_; refine sNc ?_) | (refine jIa ?_; refine sIa ?_) | (refine j_gd ?_; first | refine sWant ?_ | refine sSkip ?_ | refine sSkipU ?_))
  all_goals refine ts_nil ?_
  repeat' (first | (refine Zf ?_; first | (refine Ze ?_; refine qQ ?_) | refine Zk ?_) | refine Za ?_ | (refine Zg ?_; refine Zu ?_) | (refine Zh ?_; refine Zv ?_) | intro _)
  exact qE ⟨rfl, rfl, rfl⟩
 | some c =>
  have hsay : says1 s[i] = c := by simp [says1, hc]
  have hcl : (c.map ZE).length = 64 := by simpa using hs.cached s[i] (List.getElem_mem hi) c hc
  rw [hc] at hat
  simp only [Option.map_some] at hat
  have hone := ZM c
  refine Zd Try.func35 rfl rfl rfl fun u R => ?_
  simp only [Zw, List.cons_append, List.nil_append, dO, hsay]
  repeat' (first | (refine Zf ?_; first | (refine Ze ?_; refine qQ ?_) | refine Zk ?_) | refine Za ?_ | (refine Zg ?_; refine Zu ?_) | (refine Zh ?_; refine Zv ?_) | intro _)
  refine ZA (Zo _ _ _) stays_refl ?_
  all_goals (refine ZX 0 ?_; refine rNc 1 ?_; refine ZU 2 ?_; refine ZX 3 ?_; refine ZX 4 ?_; refine rLu 5 ?_; refine ZL 6 ?_; refine rEx 7 ?_; refine rEx 8 ?_)
  all_goals (refine Zp (i := 9) ?_; ((try refine Zl ?_); (first | (refine Zk ?_; try intro _)) <;> ((try simp only [kM, kN, kO]); refine Za ?_; refine Zm ?_)))
  all_goals (refine Zp (i := 10) ?_; ((try refine Zl ?_); (first | (refine Zk ?_; try intro _)) <;> ((try simp only [kM, kN, kO]); refine Za ?_; refine Zm ?_)))
  all_goals (refine ZN ?_; refine rAs 11 ?_; refine ZH ?_)
  repeat' (first | (refine Zf ?_; first | (refine Ze ?_; refine qQ ?_) | refine Zk ?_) | refine Za ?_ | (refine Zg ?_; refine Zu ?_) | (refine Zh ?_; refine Zv ?_) | intro _)
  exact qE ⟨rfl, rfl, rfl⟩
def Yv : Blk := List.replicate 64 0
theorem zblk_cells : List.replicate 64 (Value.int .u8 0) = Yv.map ZE := by rfl
def DS.read (D : DS) (i : Int) : DS × Blk × Int :=
 if D.dead then (D, Yv, 9) else if i < 0 ∨ (D.secs.length : Int) ≤ i then (D, Yv, 2)
 else if D.failing = 0 then (D.tick, Yv, 8)
 else (D.tick, says1 (D.secs[i.toNat]?.getD (Yv, none)), 0)
theorem dread_spec (ρ : Hp) (b : Nat) (hb : HB) (mb : Nat) (es : List MapEntry) (ck : Nat) (D : DS) (i : Int) (hD : D.Ok) (hm : MapOk D.secs es) :
  Spec Try.prog 9 [.pointer (some ⟨b, 0, none⟩), .int .i64 i] ρ (Yw b hb mb es ck D)
   (fun v ρ' L' => v = .tuple ⟨[bv (D.read i).2.1, .int .i64 (D.read i).2.2]⟩ ∧ ρ' = ρ ∧ L' = Yw b hb mb es ck (D.read i).1) := by
 obtain ⟨s, ops, armed, failing, dead⟩ := D
 obtain ⟨hs, a1, a2, f1, f2⟩ := hD
 dsimp only at hs a1 a2 f1 f2 hm
 have hz0 : (List.replicate 64 (Value.int .u8 0)).length = 64 := by rfl
 have hz64 : (List.replicate 64 (Value.int .u8 0)).all (·.oneCell') = true := by rfl
 cases dead with
 | true =>
  have he : DS.read ⟨s, ops, armed, failing, true⟩ i = (⟨s, ops, armed, failing, true⟩, Yv, 9) := by simp [DS.read]
  simp only [he]
  refine Zd Try.func9 rfl rfl rfl fun u R => ?_
  simp only [Zw, List.cons_append, List.nil_append, Yw, bv, ← zblk_cells]
  repeat' (first | (refine Zb (.func 34) ?_; refine qC rfl rfl (does_dead _ _ _ _ _ _ _ _ _ _ _) ?_; rintro v ρ' L' hle ⟨rfl, rfl, rfl⟩ <;> (try simp only [kM, kN, kO])) | (refine Zf ?_; first | (refine Ze ?_; refine qQ ?_) | refine Zk ?_) | refine Za ?_ | (refine Zg ?_; refine Zu ?_) | (refine Zh ?_; refine Zv ?_) | intro _)
  exact qE ⟨rfl, rfl, rfl⟩
 | false =>
  by_cases hi : i < 0 ∨ (s.length : Int) ≤ i
  ·have he : DS.read ⟨s, ops, armed, failing, false⟩ i = (⟨s, ops, armed, failing, false⟩, Yv, 2) := by simp [DS.read, hi]
   simp only [he]
   refine Zd Try.func9 rfl rfl rfl fun u R => ?_
   simp only [Zw, List.cons_append, List.nil_append, Yw, bv, ← zblk_cells]
   repeat' (first | (refine Zb (.func 34) ?_; refine qC rfl rfl (does_arg _ _ _ _ _ _ _ _ _ _ _ hi) ?_; rintro v ρ' L' hle ⟨rfl, rfl, rfl⟩ <;> (try simp only [kM, kN, kO])) | (refine Zf ?_; first | (refine Ze ?_; refine qQ ?_) | refine Zk ?_) | refine Za ?_ | (refine Zg ?_; refine Zu ?_) | (refine Zh ?_; refine Zv ?_) | intro _)
   exact qE ⟨rfl, rfl, rfl⟩
  ·have hi0 : 0 ≤ i := by omega
   have hi1 : i < s.length := by omega
   by_cases hf : failing = 0
   ·subst hf
    have he : DS.read ⟨s, ops, armed, 0, false⟩ i = (⟨s, IntKind.i64.wrap (ops + 1), armed, -1, false⟩, Yv, 8) := by simp [DS.read, hi, DS.tick, cnt]
    simp only [he]
    refine Zd Try.func9 rfl rfl rfl fun u R => ?_
    simp only [Zw, List.cons_append, List.nil_append, Yw, bv, ← zblk_cells]
    repeat' (first | (refine Zb (.func 34) ?_; refine qC rfl rfl (does_fail_r _ _ _ _ _ _ _ _ _ hi0 hi1) ?_; rintro v ρ' L' hle ⟨rfl, rfl, rfl⟩ <;> (try simp only [kM, kN, kO])) | (refine Zf ?_; first | (refine Ze ?_; refine qQ ?_) | refine Zk ?_) | refine Za ?_ | (refine Zg ?_; refine Zu ?_) | (refine Zh ?_; refine Zv ?_) | intro _)
    exact qE ⟨rfl, rfl, rfl⟩
   ·obtain ⟨k, rfl⟩ : ∃ k : Nat, i = k := ⟨i.toNat, by omega⟩
    have hk : k < s.length := by omega
    have hsay : (says1 s[k]).length = 64 := by
     unfold says1
     cases hc : s[k].2 with
     | none => exact hs.held s[k] (List.getElem_mem hk)
     | some c => exact hs.cached s[k] (List.getElem_mem hk) c hc
    have hsl : ((says1 s[k]).map ZE).length = 64 := by simpa using hsay
    have hone := ZM (says1 s[k])
    have he : DS.read ⟨s, ops, armed, failing, false⟩ (k : Int) = (⟨s, IntKind.i64.wrap (ops + 1), armed, cnt failing, false⟩, says1 s[k], 0) := by simp [DS.read, hi, DS.tick, hf, hk]
    simp only [he]
    refine Zd Try.func9 rfl rfl rfl fun u R => ?_
    simp only [Zw, List.cons_append, List.nil_append, Yw, bv]
    repeat' (first | (refine Zb (.func 34) ?_; refine qC rfl rfl (does_ok_r _ _ _ _ _ _ _ _ _ _ _ _ _ hi0 hi1 hf f1 f2 (read1 _ _ _ _ _ _ _ _ _ _ _ _ _ _ _ _ hz0 hs hm hk)) ?_; rintro v ρ' L' hle ⟨rfl, v0, h0, rfl, rfl⟩ <;> (try simp only [kM, kN, kO])) | (refine Zf ?_; first | (refine Ze ?_; refine qQ ?_) | refine Zk ?_) | refine Za ?_ | (refine Zg ?_; refine Zu ?_) | (refine Zh ?_; refine Zv ?_) | intro _)
    exact qE ⟨rfl, rfl, rfl⟩
def isP (s : Yz) (i : Nat) : Bool := ((s[i]?).bind (·.2)).isSome
def Ys (s : Yz) (k : Nat) : List Nat := (List.range k).filter (isP s)
def pend (s : Yz) : List Nat := Ys s s.length
theorem pendTo_succ_t {s : Yz} {k : Nat} (h : isP s k = true) : Ys s (k + 1) = Ys s k ++ [k] := by simp [Ys, List.range_succ, h]
theorem pendTo_succ_f {s : Yz} {k : Nat} (h : isP s k = false) : Ys s (k + 1) = Ys s k := by simp [Ys, List.range_succ, h]
theorem pendTo_pre {s : Yz} {k m : Nat} (h : k ≤ m) : Ys s k <+: Ys s m := by
 induction m with
 | zero =>
  have : k = 0 := by omega
  subst this; exact List.prefix_refl _
 | succ m ih =>
  by_cases e : k = m + 1
  ·subst e; exact List.prefix_refl _
  ·refine (ih (by omega)).trans ?_
   cases hp : isP s m
   ·rw [pendTo_succ_f hp]; exact List.prefix_refl _
   ·rw [pendTo_succ_t hp]; exact List.prefix_append _ _
def natE (i : Nat) : List Value := [.int .i64 i]
theorem pending1_iter (ρ0 : Hp) (b : Nat) (hb : HB) (mb bx : Nat) (s : Yz) (ops armed failing : Int) (dead : Bool) (es : List MapEntry) (ck : Nat) (hm : MapOk s es) (hs : SecsOk s) :
  Iter Try.prog 74 [] [.pointer (some ⟨bx, 0, none⟩)] natE ρ0
   [[(bx, .cells ⟨[.pointer (some ⟨b, 0, none⟩)]⟩ 24 (0, 0))], [(b, dO hb mb s.length ops armed failing dead)], [(mb, .map ⟨es⟩ ck)]] (pend s) := by
 intro l J Jx hY ρ Lj hle hJ
 refine Zd Try.func74 rfl rfl rfl fun u R => ?_
 simp only [Zw, List.cons_append, List.nil_append, dO]
 have hk := hm.keys
 have hlen := hs.len
 repeat' (first | (refine Zf ?_; first | (refine Ze ?_; refine qQ ?_) | refine Zk ?_) | refine Za ?_ | (refine Zg ?_; refine Zu ?_) | (refine Zh ?_; refine Zv ?_) | intro _)
 refine tc_loop_e (fun (y : Nat × Hp × SH) => ⟨[(0, .func (.yield l) ⟨[]⟩ ⟨[]⟩), (1, .pointer (some ⟨bx, 0, none⟩)), (10, .int .i64 s.length), (11, .int .i64 y.1)], y.2.1,
   [[(bx, .cells ⟨[.pointer (some ⟨b, 0, none⟩)]⟩ 24 (0, 0))], [(b, dO hb mb s.length ops armed failing dead)], [(mb, .map ⟨es⟩ ck)]] ++ y.2.2 ++ R⟩)
  (fun y => y.1 ≤ s.length ∧ ρ.le y.2.1 ∧ J (Ys s y.1) y.2.1 y.2.2) (fun y => s.length - y.1) (0, ρ, Lj) rfl ⟨by simp, Hp.le_refl _, hJ⟩
  Zx rfl tk inferInstance ?_
 rintro ⟨k, ρ1, L1⟩ ⟨h1, h2, h3⟩
 dsimp only at h1 h2 h3 ⊢
 simp only [List.cons_append, List.nil_append, dO]
 by_cases hlt : k < s.length
 ·have hat := hm.at hlt
  cases hc : s[k].2 with
  | none =>
   rw [hc] at hat
   simp only [Option.map_none] at hat
   have hp : isP s k = false := by simp [isP, hlt, hc]
   repeat' (first | (refine Zf ?_; first | (refine Ze ?_; refine qQ ?_) | refine Zk ?_) | refine Za ?_ | (refine Zg ?_; refine Zu ?_) | (refine Zh ?_; refine Zv ?_) | intro _)
   refine te_round_e (Lm := [_, _, _] ++ L1) (R := R) (k + 1, ρ1, L1) rfl ⟨by omega, h2, by dsimp only; rw [pendTo_succ_f hp]; exact h3⟩ Zx rfl tk inferInstance (by dsimp only; omega)
  | some c =>
   rw [hc] at hat
   simp only [Option.map_some] at hat
   have hp : isP s k = true := by simp [isP, hlt, hc]
   have hsub := pendTo_succ_t hp
   have hpre : Ys s k ++ [k] <+: pend s := by rw [← hsub]; exact pendTo_pre (by omega)
   have hone := ZM c
   have hcl : (c.map ZE).length = 64 := by simpa using hs.cached s[k] (List.getElem_mem hlt) c hc
   have hy := hY (Ys s k) k ρ1 L1 hpre (Hp.le_trans hle h2) h3
   unfold dO at hy
   repeat' (first | (refine Zb (.tmp 25) ?_; refine qY rfl rfl (hy) ?_; rintro v ρ' L' hle ⟨Lj', rfl, ⟨rfl, hj⟩ | ⟨rfl, hj⟩⟩ <;> (try simp only [kM, kN, kO])) | (refine Zf ?_; first | (refine Ze ?_; refine qQ ?_) | refine Zk ?_) | refine Za ?_ | (refine Zg ?_; refine Zu ?_) | (refine Zh ?_; refine Zv ?_) | intro _)
   ·refine te_round_e (Lm := [_, _, _] ++ Lj') (R := R) (k + 1, ρ', Lj') rfl ⟨by omega, Hp.le_trans h2 hle, by dsimp only; rw [hsub]; exact hj⟩ Zx rfl tk inferInstance (by dsimp only; omega)
   ·exact te_end rfl rfl rfl (res0 rfl) (Hp.le_trans h2 hle) tk (by infer_instance) ⟨Lj', rfl, .inr hj⟩
 ·have hk2 : k = s.length := by omega
  subst hk2
  repeat' (first | (refine Zf ?_; first | (refine Ze ?_; refine qQ ?_) | refine Zk ?_) | refine Za ?_ | (refine Zg ?_; refine Zu ?_) | (refine Zh ?_; refine Zv ?_) | intro _)
  exact te_end rfl rfl rfl (res0 rfl) h2 tk (by infer_instance) ⟨L1, rfl, .inl h3⟩
theorem pending_spec (ρ : Hp) (b : Nat) : Spec Try.prog 57 [.pointer (some ⟨b, 0, none⟩)] ρ [] (fun v ρ' L' => ∃ bx, v = .func (.func 74) ⟨[]⟩ ⟨[.pointer (some ⟨bx, 0, none⟩)]⟩ ∧ ρ' = ρ ∧ L' = [[(bx, .cells ⟨[.pointer (some ⟨b, 0, none⟩)]⟩ 24 (0, 0))]]) := by
 refine Zd Try.func57 rfl rfl rfl fun u R => ?_
 simp only [Zw, List.cons_append, List.nil_append]
 repeat' (first | (refine Zf ?_; first | (refine Ze ?_; refine qQ ?_) | refine Zk ?_) | refine Za ?_ | (refine Zg ?_; refine Zu ?_) | (refine Zh ?_; refine Zv ?_) | intro _)
 exact qE ⟨_, rfl, rfl, rfl⟩
theorem pendTo_length (s : Yz) (k : Nat) : (Ys s k).length ≤ k := by
 unfold Ys
 refine Nat.le_trans (List.length_filter_le _ _) (by simp)
theorem pend_length {s : Yz} (h : SecsOk s) : (pend s).length ≤ 2048 := Nat.le_trans (pendTo_length s _) h.len
end Go.Proofs.E
