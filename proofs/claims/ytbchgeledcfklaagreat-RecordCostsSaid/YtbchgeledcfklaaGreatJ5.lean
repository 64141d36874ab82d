/- Records of layer 12 as data, their bytes, what their functions come to, and which of them may be. Part 5 of 18. -/
import Derived.Test.YtbchgeledcfklaaGreatJ4
import Derived.Test.YtbchgeledcfklaaGreatChecked
import Derived.KernelRfl
namespace Go.Proofs.E
open Go
set_option linter.unusedVariables false
attribute [local irreducible] Yl TL TC TE Spec YSpec R1 Hp.le EnvLe TS TR YS Stays
section
variable {x : Cx} {E : Env} {ρ ρ0 : Hp} {L : SH} {v : Value}
/-- a function's end, of which the value is found first -/
theorem qF {e : Exit} {fn : Func} {u : World} {R : SH} {Post : Value → Hp → SH → Prop} {L' G : SH} (hp : Post v ρ L')
    (hr : ∀ a w, Ok x.D x.N E a → Sat x.u ρ L w → (results fn a.tmps).run x.P w = .ok v w := by
      first
      | exact res0 rfl
      | exact res1 rfl (r1_tmp rfl)
      | exact res1 rfl (r1_cell rfl (by first | assumption | rfl))
      | exact res1 rfl (r1_cell_s rfl rfl)
      | exact res2 rfl (r1_tmp rfl) (r1_tmp rfl)
      | exact res2 rfl (r1_tmp rfl) (r1_cell rfl (by first | assumption | rfl))
      | exact res2 rfl (r1_tmp rfl) (r1_cell_s rfl rfl)
      | exact res2 rfl (r1_cell rfl (by first | assumption | rfl)) (r1_tmp rfl)
      | exact res2 rfl (r1_cell rfl (by first | assumption | rfl)) (r1_cell rfl (by first | assumption | rfl))
      | exact res2 rfl (r1_cell rfl (by first | assumption | rfl)) (r1_cell_s rfl rfl)
      | exact res2 rfl (r1_cell_s rfl rfl) (r1_tmp rfl)
      | exact res2 rfl (r1_cell_s rfl rfl) (r1_cell rfl (by first | assumption | rfl))
      | exact res2 rfl (r1_cell_s rfl rfl) (r1_cell_s rfl rfl)
      | exact res3 rfl (r1_tmp rfl) (r1_tmp rfl) (r1_tmp rfl)
      | exact res3 rfl (r1_tmp rfl) (r1_tmp rfl) (r1_cell rfl (by first | assumption | rfl))
      | exact res3 rfl (r1_tmp rfl) (r1_tmp rfl) (r1_cell_s rfl rfl)
      | exact res3 rfl (r1_tmp rfl) (r1_cell rfl (by first | assumption | rfl)) (r1_tmp rfl)
      | exact res3 rfl (r1_tmp rfl) (r1_cell rfl (by first | assumption | rfl)) (r1_cell rfl (by first | assumption | rfl))
      | exact res3 rfl (r1_tmp rfl) (r1_cell rfl (by first | assumption | rfl)) (r1_cell_s rfl rfl)
      | exact res3 rfl (r1_tmp rfl) (r1_cell_s rfl rfl) (r1_tmp rfl)
      | exact res3 rfl (r1_tmp rfl) (r1_cell_s rfl rfl) (r1_cell rfl (by first | assumption | rfl))
      | exact res3 rfl (r1_tmp rfl) (r1_cell_s rfl rfl) (r1_cell_s rfl rfl)
      | exact res3 rfl (r1_cell rfl (by first | assumption | rfl)) (r1_tmp rfl) (r1_tmp rfl)
      | exact res3 rfl (r1_cell rfl (by first | assumption | rfl)) (r1_tmp rfl) (r1_cell rfl (by first | assumption | rfl))
      | exact res3 rfl (r1_cell rfl (by first | assumption | rfl)) (r1_tmp rfl) (r1_cell_s rfl rfl)
      | exact res3 rfl (r1_cell rfl (by first | assumption | rfl)) (r1_cell rfl (by first | assumption | rfl)) (r1_tmp rfl)
      | exact res3 rfl (r1_cell rfl (by first | assumption | rfl)) (r1_cell rfl (by first | assumption | rfl)) (r1_cell rfl (by first | assumption | rfl))
      | exact res3 rfl (r1_cell rfl (by first | assumption | rfl)) (r1_cell rfl (by first | assumption | rfl)) (r1_cell_s rfl rfl)
      | exact res3 rfl (r1_cell rfl (by first | assumption | rfl)) (r1_cell_s rfl rfl) (r1_tmp rfl)
      | exact res3 rfl (r1_cell rfl (by first | assumption | rfl)) (r1_cell_s rfl rfl) (r1_cell rfl (by first | assumption | rfl))
      | exact res3 rfl (r1_cell rfl (by first | assumption | rfl)) (r1_cell_s rfl rfl) (r1_cell_s rfl rfl)
      | exact res3 rfl (r1_cell_s rfl rfl) (r1_tmp rfl) (r1_tmp rfl)
      | exact res3 rfl (r1_cell_s rfl rfl) (r1_tmp rfl) (r1_cell rfl (by first | assumption | rfl))
      | exact res3 rfl (r1_cell_s rfl rfl) (r1_tmp rfl) (r1_cell_s rfl rfl)
      | exact res3 rfl (r1_cell_s rfl rfl) (r1_cell rfl (by first | assumption | rfl)) (r1_tmp rfl)
      | exact res3 rfl (r1_cell_s rfl rfl) (r1_cell rfl (by first | assumption | rfl)) (r1_cell rfl (by first | assumption | rfl))
      | exact res3 rfl (r1_cell_s rfl rfl) (r1_cell rfl (by first | assumption | rfl)) (r1_cell_s rfl rfl)
      | exact res3 rfl (r1_cell_s rfl rfl) (r1_cell_s rfl rfl) (r1_tmp rfl)
      | exact res3 rfl (r1_cell_s rfl rfl) (r1_cell_s rfl rfl) (r1_cell rfl (by first | assumption | rfl))
      | exact res3 rfl (r1_cell_s rfl rfl) (r1_cell_s rfl rfl) (r1_cell_s rfl rfl))
    (hle : ρ0.le ρ := by first | assumption | exact Hp.le_refl _ | (refine Hp.le_trans ?_ (by assumption); assumption) | solve_by_elim (maxDepth := 6) [Hp.le_trans]) (k : Take L L' G := by exact tk) (en : Ends G R := by infer_instance) (he : isEnd e = true := by rfl) (hD : x.D = [] := by rfl) (hu : x.u = u := by rfl) :
    TE x e (bodyPostM (Fw none) 0 x.P fn (RK u ρ0 R Post)) E ρ L := te_end he hD hu hr hle k en hp
end
/-- `f` is asked, the answer is `b` -/
theorem bool_eq {a b : Bool} (h : a = true ↔ b = true) : Value.bool a = Value.bool b := congrArg _ (Bool.eq_iff_iff.2 h)
/-! ## a struct of parts of any size -/
class SetN (l : List Value) (off n : Nat) (vs : List Value) (l' : outParam (List Value)) : Prop where
  len : vs.length = n
  fit : off + n ≤ l.length
  out : stc l off vs = l'
instance SetN.nil {l : List Value} : SetN l 0 0 [] l := ⟨rfl, by simp, by simp [stc]⟩
instance SetN.cons {a v : Value} {r vs r' : List Value} {n : Nat} [h : SetN r 0 n vs r'] : SetN (a :: r) 0 (n + 1) (v :: vs) (v :: r') := ⟨by
  have := h.len; simp [this], by have := h.fit; simp at this ⊢; omega, by
  have := h.out
  simp only [stc, List.take_zero, List.nil_append, Nat.zero_add, List.length_cons, List.drop_succ_cons, List.cons_append] at this ⊢
  rw [this]⟩
instance SetN.drop {a : Value} {r vs r' : List Value} {o n : Nat} [h : SetN r o n vs r'] : SetN (a :: r) (o + 1) n vs (a :: r') := ⟨h.len, by
  have := h.fit; simp only [List.length_cons]; omega, by
  have := h.out
  simp only [stc, List.take_succ_cons, List.cons_append] at this ⊢
  rw [show o + 1 + vs.length = (o + vs.length) + 1 by omega, List.drop_succ_cons, this]⟩
class GetQ (pl : List (Nat × Nat)) (i : Nat) (off n : outParam Nat) : Prop where
  out : pl[i]? = some (off, n)
instance GetQ.zero {off n : Nat} {r : List (Nat × Nat)} : GetQ ((off, n) :: r) 0 off n := ⟨rfl⟩
instance GetQ.succ {p : Nat × Nat} {r : List (Nat × Nat)} {i off n : Nat} [h : GetQ r i off n] : GetQ (p :: r) (i + 1) off n := ⟨by simpa using h.out⟩
class CellsL (v : Value) (l : outParam (List Value)) : Prop where
  out : v.cells = ⟨l⟩
instance {l : List Value} : CellsL (.agg ⟨l⟩) l := ⟨rfl⟩
instance {k : IntKind} {n : Int} : CellsL (.int k n) [.int k n] := ⟨rfl⟩
instance {b : Bool} : CellsL (.bool b) [.bool b] := ⟨rfl⟩
instance {s : ByteArray} : CellsL (.string s) [.string s] := ⟨rfl⟩
instance {a : Option Addr} : CellsL (.pointer a) [.pointer a] := ⟨rfl⟩
instance {a : Option Addr} {n c : Nat} : CellsL (.slice a n c) [.slice a n c] := ⟨rfl⟩
instance {m : Option Nat} : CellsL (.map m) [.map m] := ⟨rfl⟩
class BuildM (pl : List (Nat × Nat)) (cells : List Value) (ps : List (Nat × Operand)) (vs : List Value) (out : outParam (List Value)) : Prop where
  out : Instr.fill (pl[·]?) ⟨cells⟩ ((ps.map (·.1)).zip vs) = some ⟨out⟩
instance BuildM.nil {pl : List (Nat × Nat)} {cells : List Value} : BuildM pl cells [] [] cells := ⟨rfl⟩
instance BuildM.cons {pl : List (Nat × Nat)} {cells cells' out : List Value} {i off n : Nat} {o : Operand} {ps : List (Nat × Operand)} {v : Value} {l vs : List Value} [h1 : GetQ pl i off n] [h0 : CellsL v l] [h2 : SetN cells off n l cells'] [h3 : BuildM pl cells' ps vs out] : BuildM pl cells ((i, o) :: ps) (v :: vs) out := ⟨by
  simp only [List.map_cons, List.zip_cons_cons]
  rw [fill_cons (pl := (pl[·]?)) h1.out h0.out h2.len h2.fit, h2.out]
  exact h3.out⟩
theorem y_buildN {x : Cx} {E : Env} {ρ : Hp} {L : SH} {ty : TypeId} {t : Nat} {pl : List (Nat × Nat)} {z out : List Value} {ps : List (Nat × Operand)} {vs : List Value} [hP : TyPlaces x.P t (pl[·]?)] [hz : TyZero x.P t (.agg ⟨z⟩)] (hv : evs E (ps.map (·.2)) = some vs) [hB : BuildM pl z ps vs out] :
    Yl x (.build t ⟨ps⟩) ty E ρ L (.agg ⟨out⟩) := y_build hv hB.out
theorem bq2 {a b c d : Int} : ((a == b) = (c == d)) ↔ (a = b ↔ c = d) := by
  rw [Bool.eq_iff_iff, beq_iff_eq, beq_iff_eq]
theorem bqt {a b : Int} : (true = (a == b)) ↔ a = b := by
  rw [eq_comm, beq_iff_eq]
theorem bqf {a b : Int} : (false = (a == b)) ↔ ¬ a = b := by
  rw [eq_comm, beq_eq_false_iff_ne]
end Go.Proofs.E

namespace Go.Proofs.E
open Go Go.RowKit
set_option linter.unusedVariables false
set_option linter.unusedSimpArgs false
set_option linter.unusedSectionVars false
set_option maxRecDepth 8000
/-! ## a region that ends in a phase of its own -/
def reachB (l : List Oper) : Nat → Nat → Nat → Bool
  | 0, _, _ => false
  | f + 1, i, k => ((l[i]?).map fun o => o.after.any fun e => Region.binds .any e && (e.on == k || reachB l f e.on k)).getD false
def guardB (c : Nat) (o : Oper) : Bool := match o.guard with | none => true | some (j, _) => decide (j < c)
def cutB (l : List Oper) (c : Nat) : Bool :=
  decide (c ≤ l.length) && (List.range l.length).all fun i =>
    if i < c then ((l[i]?).map fun o => o.after.all (fun e => !Region.binds .any e || decide (e.on < i)) && guardB c o).getD false
    else (List.range c).all fun k => reachB l 12 i k
def ClosedL (l : List Oper) (m : List Bool) : Prop := ∀ (j : Nat) (o : Oper), l[j]? = some o → m[j]? = some true → ∀ e ∈ o.after, Region.binds .any e = true → m[e.on]? = some true
theorem reach_ok {l : List Oper} {m : List Bool} (hc : ClosedL l m) : ∀ (f i k : Nat) (o : Oper), l[i]? = some o → (∀ e ∈ o.after, Region.binds .any e = true → m[e.on]? = some true) → reachB l f i k = true → m[k]? = some true
  | 0, _, _, _, _, _, h => by simp [reachB] at h
  | f + 1, i, k, o, ho, he, h => by
    simp only [reachB, ho, Option.map_some, Option.getD_some, Array.any_eq_true] at h
    obtain ⟨x, hx, h⟩ := h
    simp only [Bool.and_eq_true, Bool.or_eq_true, beq_iff_eq] at h
    have h1 := he _ (Array.getElem_mem hx) h.1
    rcases h.2 with h2 | h2
    · rw [← h2]; exact h1
    · cases ho2 : l[(o.after[x]).on]? with
      | none =>
        cases f with
        | zero => simp [reachB] at h2
        | succ f => simp [reachB, ho2] at h2
      | some o2 => exact reach_ok hc f _ k o2 ho2 (hc _ o2 ho2 h1) h2
theorem wpOpIn_cut {ro : Option Nat} {P : Program} {l : List Oper} {c i : Nat} {Q Q1 : Exit → Act → World → Prop} {K K' : Act → World → Prop} {a : Act} {w : World} (hi : i < c) (hg : ∀ o, l[i]? = some o → guardB c o = true) (hk : ∀ a w, K a w → K' a w)
    (h : wpOpIn (Fw ro) 0 P (l.take c).toArray (QN Q1) i K a w) : wpOpIn (Fw ro) 0 P l.toArray (QN Q) i K' a w := by
  unfold wpOpIn at h ⊢
  simp only [List.getElem?_toArray] at h ⊢
  rw [List.getElem?_take_of_lt hi] at h
  cases ho : l[i]? with
  | none => rw [ho] at h; exact hk _ _ h
  | some o =>
    rw [ho] at h
    simp only at h ⊢
    have hgo := hg o ho
    have hy : Region.wanted o (yielded (l.take c).toArray a.tmps) = Region.wanted o (yielded l.toArray a.tmps) := by
      unfold Region.wanted
      unfold guardB at hgo
      cases hgd : o.guard with
      | none => rfl
      | some jb =>
        obtain ⟨j, b⟩ := jb
        rw [hgd] at hgo
        simp only [decide_eq_true_eq] at hgo
        simp only [yielded, List.getElem?_toArray, List.getElem?_take_of_lt hgo]
    rw [hy] at h
    by_cases hw : Region.wanted o (yielded l.toArray a.tmps) = true
    · simp only [hw, if_true] at h ⊢
      unfold Oper.wpIn at h ⊢
      refine ⟨h.1, ?_⟩
      have h2 := h.2
      generalize (o.semAt (Fw ro).round a.eval).run P w = r at *
      cases r with
      | ok n w' =>
        cases n <;> simp only [Oper.uponIn] at h2 ⊢ <;>
        first
          | exact hk _ _ h2
          | exact ⟨h2.1, CallsIn.mono h2.2 (fun e w'' he => by cases e <;> first | exact hk _ _ he | exact he.elim | exact (let ⟨_, _, q⟩ := he; q.elim))⟩
          | exact ⟨h2.1, RowsIn.mono h2.2 (fun _ _ he => hk _ _ he)⟩
          | exact ⟨h2.1, RoundIn.mono h2.2 (fun e w'' he => by cases e <;> first | exact hk _ _ he | exact he.elim | exact (let ⟨_, _, q⟩ := he; q.elim))⟩
      | halt x w' => cases x <;> simp only [Oper.uponIn] at h2 ⊢ <;> first | exact h2 | exact h2.elim
    · simp only [hw] at h ⊢
      exact ⟨h.1, hk _ _ h.2⟩
theorem any_cut {ro : Option Nat} {P : Program} {l : List Oper} {c : Nat} {Q : Exit → Act → World → Prop} (hcut : cutB l c = true) :
    ∀ (fuel : Nat) (m : List Bool) (a : Act) (w : World), m.length = c → ClosedL l m → List.count false m = fuel →
      wpAnyIn (Fw ro) 0 P .any (l.take c).toArray (QN fun e a w => wpAnyIn (Fw ro) 0 P .any l.toArray (QN Q) (l.length - c) ⟨List.replicate c true ++ List.replicate (l.length - c) false⟩ a w) fuel ⟨m⟩ a w →
      wpAnyIn (Fw ro) 0 P .any l.toArray (QN Q) (fuel + (l.length - c)) ⟨m ++ List.replicate (l.length - c) false⟩ a w := by
  simp only [cutB, Bool.and_eq_true, decide_eq_true_eq, List.all_eq_true, List.mem_range] at hcut
  obtain ⟨hcl, hall⟩ := hcut
  intro fuel
  induction fuel with
  | zero =>
    intro m a w hm _ h0 H
    have hmt : m = List.replicate c true := by
      rw [List.eq_replicate_iff]
      refine ⟨hm, fun b hb => ?_⟩
      cases b with
      | true => rfl
      | false => exact absurd hb (List.count_eq_zero.1 h0)
    rw [Nat.zero_add, hmt]
    exact H.2
  | succ fuel ih =>
    intro m a w hm hcd h0 H
    have hA : fuel + 1 + (l.length - c) = (fuel + (l.length - c)) + 1 := by omega
    rw [hA]
    have hget : ∀ j, j < c → (m ++ List.replicate (l.length - c) false)[j]? = m[j]? := fun j hj => List.getElem?_append_left (by omega)
    have hge : ∀ j, c ≤ j → (m ++ List.replicate (l.length - c) false)[j]? ≠ some true := fun j hj h => by
      rw [List.getElem?_append_right (by omega)] at h
      rw [List.getElem?_replicate] at h
      split at h <;> simp at h
    have hlt : ∀ j, (m ++ List.replicate (l.length - c) false)[j]? = some true → m[j]? = some true := fun j h => by
      by_cases hj : j < c
      · rw [hget j hj] at h; exact h
      · exact absurd h (hge j (by omega))
    have hrd : ∀ i, i ∈ Region.ready .any l.toArray ⟨m ++ List.replicate (l.length - c) false⟩ → i < c ∧ m[i]? = some false ∧ i ∈ Region.ready .any (l.take c).toArray ⟨m⟩ ∧ ∃ o, l[i]? = some o ∧ ∀ e ∈ o.after, Region.binds .any e = true → m[e.on]? = some true := fun i hi => by
      obtain ⟨h1, o, ho, he⟩ := mem_ready.1 hi
      simp only [List.getElem?_toArray] at ho
      have he' : ∀ e ∈ o.after, Region.binds .any e = true → m[e.on]? = some true := fun e h2 h3 => by
        have := he e h2 h3
        apply hlt
        simp only [Array.getD_eq_getD_getElem?, List.getElem?_toArray] at this
        cases hq : (m ++ List.replicate (l.length - c) false)[e.on]? with
        | none => rw [hq] at this; simp at this
        | some b => rw [hq] at this; simp at this; rw [this]
      have hil : i < l.length := by
        rcases Nat.lt_or_ge i l.length with h | h
        · exact h
        · rw [List.getElem?_eq_none h] at ho; cases ho
      have hic : i < c := by
        rcases Nat.lt_or_ge i c with h | h
        · exact h
        · exfalso
          have hr := hall i hil
          rw [if_neg (by omega)] at hr
          simp only [List.all_eq_true, List.mem_range] at hr
          have hno : false ∉ m := fun hf => by
            obtain ⟨k, hk, hkf⟩ := List.getElem_of_mem hf
            have := reach_ok hcd 12 i k o ho he' (hr k (by omega))
            rw [List.getElem?_eq_getElem hk, hkf] at this
            cases this
          have := List.count_eq_zero.2 hno
          omega
      have hmi : m[i]? = some false := by
        simp only [Array.getD_eq_getD_getElem?, List.getElem?_toArray, hget i hic] at h1
        rw [List.getElem?_eq_getElem (show i < m.length by omega)] at h1 ⊢
        simpa using h1
      refine ⟨hic, hmi, mem_ready.2 ⟨by simp [Array.getD_eq_getD_getElem?, hmi], o, by simp [List.getElem?_take_of_lt hic, ho], fun e h2 h3 => by simp [Array.getD_eq_getD_getElem?, he' e h2 h3]⟩, o, ho, he'⟩
    refine ⟨fun hnil => ?_, fun i hi => ?_⟩
    · exfalso
      have hmem : false ∈ m := by
        rcases Classical.em (false ∈ m) with h | h
        · exact h
        · have := List.count_eq_zero.2 h; omega
      -- the lowest that is not listed
      have hex : ∃ k : Nat, m[k]? = some false ∧ ∀ j : Nat, j < k → m[j]? = some true := by
        have key : ∀ (m : List Bool), false ∈ m → ∃ k : Nat, m[k]? = some false ∧ ∀ j : Nat, j < k → m[j]? = some true := by
          intro m
          induction m with
          | nil => intro h; cases h
          | cons b r ih2 =>
            intro h
            cases b with
            | false => exact ⟨0, rfl, fun j hj => by omega⟩
            | true =>
              obtain ⟨k, h1, h2⟩ := ih2 (by simpa using h)
              refine ⟨k + 1, by simpa using h1, fun j hj => ?_⟩
              cases j with
              | zero => rfl
              | succ j => simpa using h2 j (by omega)
        exact key m hmem
      obtain ⟨k, hk, hlow⟩ := hex
      have hkc : k < c := by
        rcases Nat.lt_or_ge k m.length with h | h
        · omega
        · rw [List.getElem?_eq_none h] at hk; cases hk
      have hr := hall k (by omega)
      rw [if_pos hkc] at hr
      have hko : l[k]? = some l[k] := List.getElem?_eq_getElem (by omega)
      rw [hko] at hr
      simp only [Option.map_some, Option.getD_some, Bool.and_eq_true, Array.all_eq_true_iff_forall_mem, Bool.or_eq_true, Bool.not_eq_true', decide_eq_true_eq] at hr
      have : k ∈ Region.ready .any l.toArray ⟨m ++ List.replicate (l.length - c) false⟩ := by
        refine mem_ready.2 ⟨by simp [Array.getD_eq_getD_getElem?, hget k hkc, hk], l[k], by simp [hko], fun e h2 h3 => ?_⟩
        have hlt2 : e.on < k := by
          rcases hr.1 e h2 with h | h
          · rw [h] at h3; cases h3
          · exact h
        simp [Array.getD_eq_getD_getElem?, hget e.on (by omega), hlow e.on hlt2]
      rw [hnil] at this
      cases this
    · obtain ⟨hic, hmi, hi1, o, ho, he⟩ := hrd i hi
      have hr := hall i (by omega)
      rw [if_pos hic, ho] at hr
      simp only [Option.map_some, Option.getD_some, Bool.and_eq_true] at hr
      refine wpOpIn_cut hic (fun o' ho' => by rw [ho] at ho'; cases ho'; exact hr.2) (fun a' w' h' => ?_) (H.2 i hi1)
      have hs1 : (⟨m⟩ : Array Bool).setIfInBounds i true = ⟨m.set i true⟩ := by simp
      have hs2 : (⟨m ++ List.replicate (l.length - c) false⟩ : Array Bool).setIfInBounds i true = ⟨m.set i true ++ List.replicate (l.length - c) false⟩ := by
        simp [List.set_append_left _ _ (show i < m.length by omega)]
      rw [hs1] at h'
      rw [hs2]
      refine ih (m.set i true) a' w' (by simpa using hm) (fun j oj hoj hj e h2 h3 => ?_) ?_ h'
      · have hself : ∀ q, m[q]? = some true → (m.set i true)[q]? = some true := fun q hq => by
          rw [List.getElem?_set]
          split
          · rename_i h; subst h; rw [hmi] at hq; cases hq
          · exact hq
        by_cases hji : j = i
        · subst hji
          rw [ho] at hoj; cases hoj
          exact hself _ (he e h2 h3)
        · rw [List.getElem?_set_ne (fun h => hji h.symm)] at hj
          exact hself _ (hcd j oj hoj hj e h2 h3)
      · have hlt3 : i < m.length := by omega
        have hmi2 : m[i] = false := by rw [List.getElem?_eq_getElem hlt3] at hmi; simpa using hmi
        rw [List.count_set (h := hlt3)]
        simp [hmi2]
        omega
section
variable {x : Cx} {Q : Exit → Act → World → Prop} {E : Env} {ρ : Hp} {L : SH} {l : List Oper}
/-- behind the first phase -/
def QPh (x : Cx) (l : List Oper) (c : Nat) (Q : Exit → Act → World → Prop) : Exit → Act → World → Prop :=
  fun _ a w => wpAnyIn (Fw x.ro) 0 x.P .any l.toArray (QN Q) (l.length - c) ⟨List.replicate c true ++ List.replicate (l.length - c) false⟩ a w
theorem tc_phase {id : Nat} (c : Nat) (S : World → Prop) [hm : Mixed x.P] (hcut : cutB l c = true) (hS : ∀ w, Sat x.u ρ L w → S w) (h : TR x (l.take c) S c (List.replicate c false) (QPh x l c Q) E ρ L) : TC x (.region id l.toArray true) Q E ρ L := fun a w ha hw => by
  refine wpIn_mono (Q := QN Q) ?_ (fun e a w q => by cases e <;> first | exact q | exact q.elim)
  refine wpIn_region_any hm.out ?_
  have h1 := h a _ ha hw.drew (hS _ hw.drew)
  have h2 := wpAnyIn_of_G _ _ _ _ h1
  have hcl : c ≤ l.length := by
    simp only [cutB, Bool.and_eq_true, decide_eq_true_eq] at hcut
    exact hcut.1
  have h3 := any_cut (Q := Q) hcut c (List.replicate c false) a _ (by simp) (fun j o _ hj => by
    rw [List.getElem?_replicate] at hj
    split at hj <;> simp at hj) (by simp) h2
  have e1 : c + (l.length - c) = l.length := by omega
  rw [e1, List.replicate_append_replicate, e1] at h3
  simpa using h3
/-- the last phase -/
theorem te_phase {c fuel : Nat} {m : List Bool} (S : World → Prop) (hf : l.length - c = fuel) (hm : List.replicate c true ++ List.replicate fuel false = m) (hS : ∀ w, Sat x.u ρ L w → S w) (h : TR x l S fuel m Q E ρ L) : TE x .normal (QPh x l c Q) E ρ L := fun a w ha hw => by
  subst hf
  subst hm
  exact wpAnyIn_of_G _ _ _ _ (h a w ha hw (hS w hw))
end
end Go.Proofs.E

namespace Go.Proofs.E
open Go
set_option linter.unusedVariables false
set_option linter.unusedSimpArgs false
set_option linter.unusedSectionVars false
set_option maxRecDepth 4000
set_option maxHeartbeats 1000000
attribute [local irreducible] Yl TL TC TE Spec YSpec R1 Hp.le EnvLe TS TR YS Stays
/-! ## numbers in bytes -/
def be : Nat → Nat → List UInt8
  | 0, _ => []
  | n + 1, x => UInt8.ofNat (x / 256 ^ n) :: be n x
def unbe (l : List UInt8) : Nat := l.foldl (fun a b => a * 256 + b.toNat) 0
theorem be_length (n x : Nat) : (be n x).length = n := by induction n <;> simp [be, *]
theorem foldl_be (l : List UInt8) (a : Nat) : l.foldl (fun a b => a * 256 + b.toNat) a = a * 256 ^ l.length + unbe l := by
  unfold unbe
  induction l generalizing a with
  | nil => simp
  | cons b l ih =>
    simp only [List.foldl_cons, List.length_cons]
    rw [ih (a * 256 + b.toNat), ih (0 * 256 + b.toNat)]
    rw [Nat.pow_succ]
    simp only [Nat.zero_mul, Nat.zero_add, Nat.add_mul, Nat.mul_assoc, Nat.mul_comm 256, Nat.add_assoc]
theorem unbe_cons (b : UInt8) (l : List UInt8) : unbe (b :: l) = b.toNat * 256 ^ l.length + unbe l := by
  have := foldl_be l (0 * 256 + b.toNat)
  simp only [Nat.zero_mul, Nat.zero_add] at this
  rw [← this]; simp [unbe]
theorem unbe_snoc (b : UInt8) (l : List UInt8) : unbe (l ++ [b]) = unbe l * 256 + b.toNat := by simp [unbe]
theorem unbe_lt (l : List UInt8) : unbe l < 256 ^ l.length := by
  induction l with
  | nil => simp [unbe]
  | cons b l ih =>
    rw [unbe_cons, List.length_cons, Nat.pow_succ]
    have hb : b.toNat < 256 := b.toNat_lt
    have : (b.toNat + 1) * 256 ^ l.length ≤ 256 * 256 ^ l.length := Nat.mul_le_mul_right _ (by omega)
    rw [Nat.add_mul] at this
    omega
theorem unbe_be (n x : Nat) : unbe (be n x) = x % 256 ^ n := by
  induction n with
  | zero => simp [be, unbe, Nat.mod_one]
  | succ n ih =>
    rw [be, unbe_cons, be_length, ih, UInt8.toNat_ofNat']
    have h1 := Nat.mod_mul (x := x) (a := 256 ^ n) (b := 256)
    have e : 256 ^ (n + 1) = 256 ^ n * 256 := by rw [Nat.pow_succ]
    have e2 : (2 : Nat) ^ 8 = 256 := by decide
    rw [e, h1, e2, Nat.mul_comm]
    omega
theorem be_mod (n x : Nat) : be n (x % 256 ^ n) = be n x := by
  have key : ∀ m, m ≤ n → be m (x % 256 ^ n) = be m x := by
    intro m
    induction m with
    | zero => intro _; rfl
    | succ m ih =>
      intro hm
      rw [be, be, ih (by omega)]
      congr 1
      apply UInt8.toNat_inj.1
      simp only [UInt8.toNat_ofNat']
      obtain ⟨k, rfl⟩ : ∃ k, n = m + 1 + k := ⟨n - (m + 1), by omega⟩
      have e : 256 ^ (m + 1 + k) = 256 ^ m * (256 * 256 ^ k) := by rw [Nat.pow_add, Nat.pow_succ, Nat.mul_assoc]
      rw [e, Nat.mod_mul_right_div_self, Nat.mod_mul_right_mod]
  exact key n (Nat.le_refl _)
theorem be_unbe (l : List UInt8) : be l.length (unbe l) = l := by
  induction l with
  | nil => rfl
  | cons b l ih =>
    rw [List.length_cons, be, unbe_cons]
    have hlt := unbe_lt l
    have hp : 0 < 256 ^ l.length := Nat.pow_pos (by decide)
    have h1 : (b.toNat * 256 ^ l.length + unbe l) / 256 ^ l.length = b.toNat := by
      rw [Nat.mul_comm, Nat.mul_add_div hp, Nat.div_eq_of_lt hlt]; simp
    have h2 : be l.length (b.toNat * 256 ^ l.length + unbe l) = l := by
      rw [← be_mod, Nat.mul_comm, Nat.mul_add_mod, Nat.mod_eq_of_lt hlt, ih]
    rw [h1, h2]; simp
theorem be_inj {n x y : Nat} (hx : x < 256 ^ n) (hy : y < 256 ^ n) (h : be n x = be n y) : x = y := by
  have := congrArg unbe h
  rwa [unbe_be, unbe_be, Nat.mod_eq_of_lt hx, Nat.mod_eq_of_lt hy] at this
end Go.Proofs.E

namespace Go.Proofs.E
open Go Go.Proofs.E
set_option linter.unusedVariables false


theorem tqI {t : TypeId} {b : Bool} (h : (Tryz.prog.underlying t).map isIfaceD = some b := by kernel_rfl) : TyIface Tryz.prog t b := mkTyIface h
theorem tqS {t : TypeId} (h : (Tryz.prog.underlying t).map isAggD = some false := by kernel_rfl) (k : (Tryz.prog.info? t).map (·.size) = some 1 := by kernel_rfl) : TyS Tryz.prog t := mkTyS h k
theorem tqA {t : TypeId} {n : Nat} (h : (Tryz.prog.underlying t).map isAggD = some true := by kernel_rfl) (k : (Tryz.prog.info? t).map (·.size) = some n := by kernel_rfl) : TyA Tryz.prog t n := mkTyA h k
theorem tqN {t : TypeId} {n : Nat} (k : (Tryz.prog.info? t).map (·.size) = some n := by kernel_rfl) : TySz Tryz.prog t n := mkTySz k
theorem tqB {t : TypeId} {n : Nat} (k : (Tryz.prog.info? t).map (·.bytes) = some n := by kernel_rfl) : TyBytes Tryz.prog t n := mkTyBytes k
theorem tqO {t : TypeId} {z : Value} (k : (Tryz.prog.info? t).bind (·.zero) = some z := by kernel_rfl) : TyZero Tryz.prog t z := mkTyZero k
theorem tqF {t : TypeId} (h : (Tryz.prog.underlying t).map isFuncD = some true := by kernel_rfl) : TyFunc Tryz.prog t := mkTyFunc h
theorem tqD {s : TypeId} {f off : Nat} {ft : TypeId} (h : fldB Tryz.prog s f = some (off, ft) := by kernel_rfl) : Fld Tryz.prog s f off ft := mkFld h
theorem tqU {f : FuncId} (h : funB Tryz.prog f = true := by kernel_rfl) : Fun Tryz.prog f := mkFun h

instance : TyS Tryz.prog 1 := tqS
instance : TyIface Tryz.prog 1 false := tqI
instance : TyFunc Tryz.prog 1 := tqF
instance : TySz Tryz.prog 1 1 := tqN
instance : TyBytes Tryz.prog 1 8 := tqB
instance : TyZero Tryz.prog 1 (.nilFunc) := tqO
instance : TyS Tryz.prog 2 := tqS
instance : TyIface Tryz.prog 2 false := tqI
instance : TySz Tryz.prog 2 1 := tqN
instance : TyBytes Tryz.prog 2 8 := tqB
instance : TyZero Tryz.prog 2 (.int .i64 0) := tqO
instance : TyInt Tryz.prog 2 .i64 := ⟨by kernel_rfl⟩
instance : TyS Tryz.prog 3 := tqS
instance : TyIface Tryz.prog 3 false := tqI
instance : TySz Tryz.prog 3 1 := tqN
instance : TyBytes Tryz.prog 3 8 := tqB
instance : TyZero Tryz.prog 3 (.int .i64 0) := tqO
instance : TyInt Tryz.prog 3 .i64 := ⟨by kernel_rfl⟩
instance : TyS Tryz.prog 4 := tqS
instance : TyIface Tryz.prog 4 false := tqI
instance : TySz Tryz.prog 4 1 := tqN
instance : TyBytes Tryz.prog 4 1 := tqB
instance : TyZero Tryz.prog 4 (.bool false) := tqO
instance : TyBool Tryz.prog 4 := ⟨by kernel_rfl⟩
instance : TyS Tryz.prog 5 := tqS
instance : TyIface Tryz.prog 5 false := tqI
instance : TySz Tryz.prog 5 1 := tqN
instance : TyBytes Tryz.prog 5 1 := tqB
instance : TyZero Tryz.prog 5 (.int .u8 0) := tqO
instance : TyInt Tryz.prog 5 .u8 := ⟨by kernel_rfl⟩
instance : TyA Tryz.prog 7 4 := tqA
instance : TyIface Tryz.prog 7 false := tqI
instance : TySz Tryz.prog 7 4 := tqN
instance : TyBytes Tryz.prog 7 24 := tqB
instance : TyZero Tryz.prog 7 (.agg ⟨[.int .i64 0, .int .i64 0, .bool false, .int .u8 0]⟩) := tqO
instance : NoGuard Tryz.prog 7 := ⟨by kernel_rfl⟩
instance : Fld Tryz.prog 7 0 0 2 := tqD
instance : Fld Tryz.prog 7 1 1 3 := tqD
instance : Fld Tryz.prog 7 2 2 4 := tqD
instance : Fld Tryz.prog 7 3 3 6 := tqD
instance : TyPlaces Tryz.prog 7 (([(0, 1), (1, 1), (2, 1), (3, 1)] : List (Nat × Nat))[·]?) := mkTyPlaces (by kernel_rfl)
instance : TyS Tryz.prog 9 := tqS
instance : TyIface Tryz.prog 9 false := tqI
instance : TySz Tryz.prog 9 1 := tqN
instance : TyBytes Tryz.prog 9 16 := tqB
instance : TyZero Tryz.prog 9 (.string ⟨⟨[]⟩⟩) := tqO
instance : TyStr Tryz.prog 9 := ⟨by kernel_rfl⟩
instance : TyS Tryz.prog 12 := tqS
instance : TyIface Tryz.prog 12 false := tqI
instance : TySz Tryz.prog 12 1 := tqN
instance : TyBytes Tryz.prog 12 8 := tqB
instance : TyZero Tryz.prog 12 (.int .u64 0) := tqO
instance : TyInt Tryz.prog 12 .u64 := ⟨by kernel_rfl⟩
instance : TyS Tryz.prog 16 := tqS
instance : TyIface Tryz.prog 16 false := tqI
instance : TySz Tryz.prog 16 1 := tqN
instance : TyBytes Tryz.prog 16 8 := tqB
instance : TyZero Tryz.prog 16 (.pointer none) := tqO
instance : TyPtr Tryz.prog 16 310 := ⟨by kernel_rfl⟩
instance : TyS Tryz.prog 17 := tqS
instance : TyIface Tryz.prog 17 false := tqI
instance : TySz Tryz.prog 17 1 := tqN
instance : TyBytes Tryz.prog 17 8 := tqB
instance : TyZero Tryz.prog 17 (.pointer none) := tqO
instance : TyPtr Tryz.prog 17 318 := ⟨by kernel_rfl⟩
instance : TyS Tryz.prog 20 := tqS
instance : TyIface Tryz.prog 20 true := tqI
instance : TySz Tryz.prog 20 1 := tqN
instance : TyBytes Tryz.prog 20 16 := tqB
instance : TyZero Tryz.prog 20 (.nilIface) := tqO
instance : TyS Tryz.prog 21 := tqS
instance : TyIface Tryz.prog 21 false := tqI
instance : TySz Tryz.prog 21 1 := tqN
instance : TyBytes Tryz.prog 21 4 := tqB
instance : TyZero Tryz.prog 21 (.int .i32 0) := tqO
instance : TyInt Tryz.prog 21 .i32 := ⟨by kernel_rfl⟩
instance : TyS Tryz.prog 22 := tqS
instance : TyIface Tryz.prog 22 false := tqI
instance : TySz Tryz.prog 22 1 := tqN
instance : TyBytes Tryz.prog 22 24 := tqB
instance : TyZero Tryz.prog 22 (.slice none 0 0) := tqO
instance : TySlice Tryz.prog 22 30 := ⟨by kernel_rfl⟩
instance : TyS Tryz.prog 23 := tqS
instance : TyIface Tryz.prog 23 false := tqI
instance : TyFunc Tryz.prog 23 := tqF
instance : TySz Tryz.prog 23 1 := tqN
instance : TyBytes Tryz.prog 23 8 := tqB
instance : TyZero Tryz.prog 23 (.nilFunc) := tqO
instance : TyS Tryz.prog 24 := tqS
instance : TyIface Tryz.prog 24 false := tqI
instance : TySz Tryz.prog 24 1 := tqN
instance : TyBytes Tryz.prog 24 8 := tqB
instance : TyZero Tryz.prog 24 (.int .u64 0) := tqO
instance : TyInt Tryz.prog 24 .u64 := ⟨by kernel_rfl⟩
instance : TyS Tryz.prog 25 := tqS
instance : TyIface Tryz.prog 25 false := tqI
instance : TySz Tryz.prog 25 1 := tqN
instance : TyBytes Tryz.prog 25 24 := tqB
instance : TyZero Tryz.prog 25 (.slice none 0 0) := tqO
instance : TySlice Tryz.prog 25 68 := ⟨by kernel_rfl⟩
instance : TyS Tryz.prog 26 := tqS
instance : TyIface Tryz.prog 26 false := tqI
instance : TySz Tryz.prog 26 1 := tqN
instance : TyBytes Tryz.prog 26 24 := tqB
instance : TyZero Tryz.prog 26 (.slice none 0 0) := tqO
instance : TySlice Tryz.prog 26 62 := ⟨by kernel_rfl⟩
instance : TyS Tryz.prog 27 := tqS
instance : TyIface Tryz.prog 27 false := tqI
instance : TySz Tryz.prog 27 1 := tqN
instance : TyBytes Tryz.prog 27 24 := tqB
instance : TyZero Tryz.prog 27 (.slice none 0 0) := tqO
instance : TySlice Tryz.prog 27 95 := ⟨by kernel_rfl⟩
instance : TyS Tryz.prog 28 := tqS
instance : TyIface Tryz.prog 28 false := tqI
instance : TySz Tryz.prog 28 1 := tqN
instance : TyBytes Tryz.prog 28 24 := tqB
instance : TyZero Tryz.prog 28 (.slice none 0 0) := tqO
instance : TySlice Tryz.prog 28 120 := ⟨by kernel_rfl⟩
instance : TyA Tryz.prog 29 10 := tqA
instance : TyIface Tryz.prog 29 false := tqI
instance : TySz Tryz.prog 29 10 := tqN
instance : TyBytes Tryz.prog 29 144 := tqB
instance : TyZero Tryz.prog 29 (.agg ⟨[.int .i64 0, .int .u64 0, .int .i64 0, .int .u64 0, .int .u64 0, .slice none 0 0, .slice none 0 0, .int .i64 0, .slice none 0 0, .slice none 0 0]⟩) := tqO
instance : NoGuard Tryz.prog 29 := ⟨by kernel_rfl⟩
instance : Fld Tryz.prog 29 0 0 3 := tqD
instance : Fld Tryz.prog 29 1 1 24 := tqD
instance : Fld Tryz.prog 29 2 2 3 := tqD
instance : Fld Tryz.prog 29 3 3 24 := tqD
instance : Fld Tryz.prog 29 4 4 24 := tqD
instance : Fld Tryz.prog 29 5 5 25 := tqD
instance : Fld Tryz.prog 29 6 6 26 := tqD
instance : Fld Tryz.prog 29 7 7 3 := tqD
instance : Fld Tryz.prog 29 8 8 27 := tqD
instance : Fld Tryz.prog 29 9 9 28 := tqD
instance : TyPlaces Tryz.prog 29 (([(0, 1), (1, 1), (2, 1), (3, 1), (4, 1), (5, 1), (6, 1), (7, 1), (8, 1), (9, 1)] : List (Nat × Nat))[·]?) := mkTyPlaces (by kernel_rfl)
instance : TyA Tryz.prog 30 10 := tqA
instance : TyIface Tryz.prog 30 false := tqI
instance : TySz Tryz.prog 30 10 := tqN
instance : TyBytes Tryz.prog 30 144 := tqB
instance : TyZero Tryz.prog 30 (.agg ⟨[.int .i64 0, .int .u64 0, .int .i64 0, .int .u64 0, .int .u64 0, .slice none 0 0, .slice none 0 0, .int .i64 0, .slice none 0 0, .slice none 0 0]⟩) := tqO
instance : NoGuard Tryz.prog 30 := ⟨by kernel_rfl⟩
instance : TyFlds Tryz.prog 30 [(0, 3), (1, 24), (2, 3), (3, 24), (4, 24), (5, 25), (6, 26), (7, 3), (8, 27), (9, 28)] := mkTyFlds (by kernel_rfl)
instance : Fld Tryz.prog 30 0 0 3 := tqD
instance : Fld Tryz.prog 30 1 1 24 := tqD
instance : Fld Tryz.prog 30 2 2 3 := tqD
instance : Fld Tryz.prog 30 3 3 24 := tqD
instance : Fld Tryz.prog 30 4 4 24 := tqD
instance : Fld Tryz.prog 30 5 5 25 := tqD
instance : Fld Tryz.prog 30 6 6 26 := tqD
instance : Fld Tryz.prog 30 7 7 3 := tqD
instance : Fld Tryz.prog 30 8 8 27 := tqD
instance : Fld Tryz.prog 30 9 9 28 := tqD
instance : TyPlaces Tryz.prog 30 (([(0, 1), (1, 1), (2, 1), (3, 1), (4, 1), (5, 1), (6, 1), (7, 1), (8, 1), (9, 1)] : List (Nat × Nat))[·]?) := mkTyPlaces (by kernel_rfl)
instance : TyS Tryz.prog 32 := tqS
instance : TyIface Tryz.prog 32 false := tqI
instance : TySz Tryz.prog 32 1 := tqN
instance : TyBytes Tryz.prog 32 24 := tqB
instance : TyZero Tryz.prog 32 (.slice none 0 0) := tqO
instance : TySlice Tryz.prog 32 93 := ⟨by kernel_rfl⟩
instance : TyS Tryz.prog 35 := tqS
instance : TyIface Tryz.prog 35 false := tqI
instance : TySz Tryz.prog 35 1 := tqN
instance : TyBytes Tryz.prog 35 8 := tqB
instance : TyZero Tryz.prog 35 (.int .i64 0) := tqO
instance : TyInt Tryz.prog 35 .i64 := ⟨by kernel_rfl⟩
instance : TyS Tryz.prog 40 := tqS
instance : TyIface Tryz.prog 40 false := tqI
instance : TyFunc Tryz.prog 40 := tqF
instance : TySz Tryz.prog 40 1 := tqN
instance : TyBytes Tryz.prog 40 8 := tqB
instance : TyZero Tryz.prog 40 (.nilFunc) := tqO
instance : TyS Tryz.prog 43 := tqS
instance : TyIface Tryz.prog 43 false := tqI
instance : TySz Tryz.prog 43 1 := tqN
instance : TyBytes Tryz.prog 43 24 := tqB
instance : TyZero Tryz.prog 43 (.slice none 0 0) := tqO
instance : TySlice Tryz.prog 43 44 := ⟨by kernel_rfl⟩
instance : TyS Tryz.prog 44 := tqS
instance : TyIface Tryz.prog 44 false := tqI
instance : TySz Tryz.prog 44 1 := tqN
instance : TyBytes Tryz.prog 44 24 := tqB
instance : TyZero Tryz.prog 44 (.slice none 0 0) := tqO
instance : TySlice Tryz.prog 44 5 := ⟨by kernel_rfl⟩
instance : TyS Tryz.prog 48 := tqS
instance : TyIface Tryz.prog 48 false := tqI
instance : TyFunc Tryz.prog 48 := tqF
instance : TySz Tryz.prog 48 1 := tqN
instance : TyBytes Tryz.prog 48 8 := tqB
instance : TyZero Tryz.prog 48 (.nilFunc) := tqO
instance : TyS Tryz.prog 56 := tqS
instance : TyIface Tryz.prog 56 false := tqI
instance : TySz Tryz.prog 56 1 := tqN
instance : TyBytes Tryz.prog 56 2 := tqB
instance : TyZero Tryz.prog 56 (.int .u16 0) := tqO
instance : TyInt Tryz.prog 56 .u16 := ⟨by kernel_rfl⟩
instance : TyA Tryz.prog 57 2 := tqA
instance : TyIface Tryz.prog 57 false := tqI
instance : TySz Tryz.prog 57 2 := tqN
instance : TyBytes Tryz.prog 57 16 := tqB
instance : TyZero Tryz.prog 57 (.agg ⟨[.int .i64 0, .int .u16 0]⟩) := tqO
instance : NoGuard Tryz.prog 57 := ⟨by kernel_rfl⟩
instance : Fld Tryz.prog 57 0 0 3 := tqD
instance : Fld Tryz.prog 57 1 1 56 := tqD
instance : TyPlaces Tryz.prog 57 (([(0, 1), (1, 1)] : List (Nat × Nat))[·]?) := mkTyPlaces (by kernel_rfl)
instance : TyA Tryz.prog 58 2 := tqA
instance : TyIface Tryz.prog 58 false := tqI
instance : TySz Tryz.prog 58 2 := tqN
instance : TyBytes Tryz.prog 58 16 := tqB
instance : TyZero Tryz.prog 58 (.agg ⟨[.int .i64 0, .int .u16 0]⟩) := tqO
instance : NoGuard Tryz.prog 58 := ⟨by kernel_rfl⟩
instance : TyFlds Tryz.prog 58 [(0, 3), (1, 56)] := mkTyFlds (by kernel_rfl)
instance : Fld Tryz.prog 58 0 0 3 := tqD
instance : Fld Tryz.prog 58 1 1 56 := tqD
instance : TyPlaces Tryz.prog 58 (([(0, 1), (1, 1)] : List (Nat × Nat))[·]?) := mkTyPlaces (by kernel_rfl)
instance : TyA Tryz.prog 59 4 := tqA
instance : TyIface Tryz.prog 59 false := tqI
instance : TySz Tryz.prog 59 4 := tqN
instance : TyBytes Tryz.prog 59 40 := tqB
instance : TyZero Tryz.prog 59 (.agg ⟨[.int .i64 0, .int .u16 0, .int .i64 0, .string ⟨⟨[]⟩⟩]⟩) := tqO
instance : NoGuard Tryz.prog 59 := ⟨by kernel_rfl⟩
instance : Fld Tryz.prog 59 0 0 58 := tqD
instance : Fld Tryz.prog 59 1 2 2 := tqD
instance : Fld Tryz.prog 59 2 3 9 := tqD
instance : TyPlaces Tryz.prog 59 (([(0, 2), (2, 1), (3, 1)] : List (Nat × Nat))[·]?) := mkTyPlaces (by kernel_rfl)
instance : TyA Tryz.prog 60 4 := tqA
instance : TyIface Tryz.prog 60 false := tqI
instance : TySz Tryz.prog 60 4 := tqN
instance : TyBytes Tryz.prog 60 40 := tqB
instance : TyZero Tryz.prog 60 (.agg ⟨[.int .i64 0, .int .u16 0, .int .i64 0, .string ⟨⟨[]⟩⟩]⟩) := tqO
instance : NoGuard Tryz.prog 60 := ⟨by kernel_rfl⟩
instance : TyFlds Tryz.prog 60 [(0, 58), (2, 2), (3, 9)] := mkTyFlds (by kernel_rfl)
instance : Fld Tryz.prog 60 0 0 58 := tqD
instance : Fld Tryz.prog 60 1 2 2 := tqD
instance : Fld Tryz.prog 60 2 3 9 := tqD
instance : TyPlaces Tryz.prog 60 (([(0, 2), (2, 1), (3, 1)] : List (Nat × Nat))[·]?) := mkTyPlaces (by kernel_rfl)
instance : TyA Tryz.prog 61 6 := tqA
instance : TyIface Tryz.prog 61 false := tqI
instance : TySz Tryz.prog 61 6 := tqN
instance : TyBytes Tryz.prog 61 56 := tqB
instance : TyZero Tryz.prog 61 (.agg ⟨[.int .i64 0, .int .i64 0, .int .u16 0, .int .i64 0, .string ⟨⟨[]⟩⟩, .int .i64 0]⟩) := tqO
instance : NoGuard Tryz.prog 61 := ⟨by kernel_rfl⟩
instance : Fld Tryz.prog 61 0 0 3 := tqD
instance : Fld Tryz.prog 61 1 1 60 := tqD
instance : Fld Tryz.prog 61 2 5 2 := tqD
instance : TyPlaces Tryz.prog 61 (([(0, 1), (1, 4), (5, 1)] : List (Nat × Nat))[·]?) := mkTyPlaces (by kernel_rfl)
instance : TyA Tryz.prog 62 6 := tqA
instance : TyIface Tryz.prog 62 false := tqI
instance : TySz Tryz.prog 62 6 := tqN
instance : TyBytes Tryz.prog 62 56 := tqB
instance : TyZero Tryz.prog 62 (.agg ⟨[.int .i64 0, .int .i64 0, .int .u16 0, .int .i64 0, .string ⟨⟨[]⟩⟩, .int .i64 0]⟩) := tqO
instance : NoGuard Tryz.prog 62 := ⟨by kernel_rfl⟩
instance : TyFlds Tryz.prog 62 [(0, 3), (1, 60), (5, 2)] := mkTyFlds (by kernel_rfl)
instance : Fld Tryz.prog 62 0 0 3 := tqD
instance : Fld Tryz.prog 62 1 1 60 := tqD
instance : Fld Tryz.prog 62 2 5 2 := tqD
instance : TyPlaces Tryz.prog 62 (([(0, 1), (1, 4), (5, 1)] : List (Nat × Nat))[·]?) := mkTyPlaces (by kernel_rfl)
instance : TyS Tryz.prog 63 := tqS
instance : TyIface Tryz.prog 63 false := tqI
instance : TySz Tryz.prog 63 1 := tqN
instance : TyBytes Tryz.prog 63 24 := tqB
instance : TyZero Tryz.prog 63 (.slice none 0 0) := tqO
instance : TySlice Tryz.prog 63 60 := ⟨by kernel_rfl⟩
instance : TyS Tryz.prog 64 := tqS
instance : TyIface Tryz.prog 64 false := tqI
instance : TySz Tryz.prog 64 1 := tqN
instance : TyBytes Tryz.prog 64 24 := tqB
instance : TyZero Tryz.prog 64 (.slice none 0 0) := tqO
instance : TySlice Tryz.prog 64 164 := ⟨by kernel_rfl⟩
instance : TyA Tryz.prog 65 3 := tqA
instance : TyIface Tryz.prog 65 false := tqI
instance : TySz Tryz.prog 65 3 := tqN
instance : TyBytes Tryz.prog 65 56 := tqB
instance : TyZero Tryz.prog 65 (.agg ⟨[.int .i64 0, .slice none 0 0, .slice none 0 0]⟩) := tqO
instance : NoGuard Tryz.prog 65 := ⟨by kernel_rfl⟩
instance : Fld Tryz.prog 65 0 0 3 := tqD
instance : Fld Tryz.prog 65 1 1 63 := tqD
instance : Fld Tryz.prog 65 2 2 64 := tqD
instance : TyPlaces Tryz.prog 65 (([(0, 1), (1, 1), (2, 1)] : List (Nat × Nat))[·]?) := mkTyPlaces (by kernel_rfl)
instance : TyA Tryz.prog 66 3 := tqA
instance : TyIface Tryz.prog 66 false := tqI
instance : TySz Tryz.prog 66 3 := tqN
instance : TyBytes Tryz.prog 66 56 := tqB
instance : TyZero Tryz.prog 66 (.agg ⟨[.int .i64 0, .slice none 0 0, .slice none 0 0]⟩) := tqO
instance : NoGuard Tryz.prog 66 := ⟨by kernel_rfl⟩
instance : TyFlds Tryz.prog 66 [(0, 3), (1, 63), (2, 64)] := mkTyFlds (by kernel_rfl)
instance : Fld Tryz.prog 66 0 0 3 := tqD
instance : Fld Tryz.prog 66 1 1 63 := tqD
instance : Fld Tryz.prog 66 2 2 64 := tqD
instance : TyPlaces Tryz.prog 66 (([(0, 1), (1, 1), (2, 1)] : List (Nat × Nat))[·]?) := mkTyPlaces (by kernel_rfl)
instance : TyA Tryz.prog 67 7 := tqA
instance : TyIface Tryz.prog 67 false := tqI
instance : TySz Tryz.prog 67 7 := tqN
instance : TyBytes Tryz.prog 67 120 := tqB
instance : TyZero Tryz.prog 67 (.agg ⟨[.int .i64 0, .int .i64 0, .slice none 0 0, .slice none 0 0, .int .i64 0, .slice none 0 0, .slice none 0 0]⟩) := tqO
instance : NoGuard Tryz.prog 67 := ⟨by kernel_rfl⟩
instance : Fld Tryz.prog 67 0 0 3 := tqD
instance : Fld Tryz.prog 67 1 1 66 := tqD
instance : Fld Tryz.prog 67 2 4 66 := tqD
instance : TyPlaces Tryz.prog 67 (([(0, 1), (1, 3), (4, 3)] : List (Nat × Nat))[·]?) := mkTyPlaces (by kernel_rfl)
instance : TyA Tryz.prog 68 7 := tqA
instance : TyIface Tryz.prog 68 false := tqI
instance : TySz Tryz.prog 68 7 := tqN
instance : TyBytes Tryz.prog 68 120 := tqB
instance : TyZero Tryz.prog 68 (.agg ⟨[.int .i64 0, .int .i64 0, .slice none 0 0, .slice none 0 0, .int .i64 0, .slice none 0 0, .slice none 0 0]⟩) := tqO
instance : NoGuard Tryz.prog 68 := ⟨by kernel_rfl⟩
instance : TyFlds Tryz.prog 68 [(0, 3), (1, 66), (4, 66)] := mkTyFlds (by kernel_rfl)
instance : Fld Tryz.prog 68 0 0 3 := tqD
instance : Fld Tryz.prog 68 1 1 66 := tqD
instance : Fld Tryz.prog 68 2 4 66 := tqD
instance : TyPlaces Tryz.prog 68 (([(0, 1), (1, 3), (4, 3)] : List (Nat × Nat))[·]?) := mkTyPlaces (by kernel_rfl)
instance : TyS Tryz.prog 75 := tqS
instance : TyIface Tryz.prog 75 false := tqI
instance : TySz Tryz.prog 75 1 := tqN
instance : TyBytes Tryz.prog 75 24 := tqB
instance : TyZero Tryz.prog 75 (.slice none 0 0) := tqO
instance : TySlice Tryz.prog 75 3 := ⟨by kernel_rfl⟩
instance : TyS Tryz.prog 88 := tqS
instance : TyIface Tryz.prog 88 false := tqI
instance : TyFunc Tryz.prog 88 := tqF
instance : TySz Tryz.prog 88 1 := tqN
instance : TyBytes Tryz.prog 88 8 := tqB
instance : TyZero Tryz.prog 88 (.nilFunc) := tqO
instance : TyS Tryz.prog 90 := tqS
instance : TyIface Tryz.prog 90 false := tqI
instance : TySz Tryz.prog 90 1 := tqN
instance : TyBytes Tryz.prog 90 24 := tqB
instance : TyZero Tryz.prog 90 (.slice none 0 0) := tqO
instance : TySlice Tryz.prog 90 172 := ⟨by kernel_rfl⟩
instance : TyS Tryz.prog 91 := tqS
instance : TyIface Tryz.prog 91 false := tqI
instance : TySz Tryz.prog 91 1 := tqN
instance : TyBytes Tryz.prog 91 24 := tqB
instance : TyZero Tryz.prog 91 (.slice none 0 0) := tqO
instance : TySlice Tryz.prog 91 24 := ⟨by kernel_rfl⟩
instance : TyA Tryz.prog 92 7 := tqA
instance : TyIface Tryz.prog 92 false := tqI
instance : TySz Tryz.prog 92 7 := tqN
instance : TyBytes Tryz.prog 92 88 := tqB
instance : TyZero Tryz.prog 92 (.agg ⟨[.int .i64 0, .int .i64 0, .int .u64 0, .int .u64 0, .int .u64 0, .slice none 0 0, .slice none 0 0]⟩) := tqO
instance : NoGuard Tryz.prog 92 := ⟨by kernel_rfl⟩
instance : Fld Tryz.prog 92 0 0 3 := tqD
instance : Fld Tryz.prog 92 1 1 3 := tqD
instance : Fld Tryz.prog 92 2 2 24 := tqD
instance : Fld Tryz.prog 92 3 3 24 := tqD
instance : Fld Tryz.prog 92 4 4 24 := tqD
instance : Fld Tryz.prog 92 5 5 90 := tqD
instance : Fld Tryz.prog 92 6 6 91 := tqD
instance : TyPlaces Tryz.prog 92 (([(0, 1), (1, 1), (2, 1), (3, 1), (4, 1), (5, 1), (6, 1)] : List (Nat × Nat))[·]?) := mkTyPlaces (by kernel_rfl)
instance : TyA Tryz.prog 93 7 := tqA
instance : TyIface Tryz.prog 93 false := tqI
instance : TySz Tryz.prog 93 7 := tqN
instance : TyBytes Tryz.prog 93 88 := tqB
instance : TyZero Tryz.prog 93 (.agg ⟨[.int .i64 0, .int .i64 0, .int .u64 0, .int .u64 0, .int .u64 0, .slice none 0 0, .slice none 0 0]⟩) := tqO
instance : NoGuard Tryz.prog 93 := ⟨by kernel_rfl⟩
instance : TyFlds Tryz.prog 93 [(0, 3), (1, 3), (2, 24), (3, 24), (4, 24), (5, 90), (6, 91)] := mkTyFlds (by kernel_rfl)
instance : Fld Tryz.prog 93 0 0 3 := tqD
instance : Fld Tryz.prog 93 1 1 3 := tqD
instance : Fld Tryz.prog 93 2 2 24 := tqD
instance : Fld Tryz.prog 93 3 3 24 := tqD
instance : Fld Tryz.prog 93 4 4 24 := tqD
instance : Fld Tryz.prog 93 5 5 90 := tqD
instance : Fld Tryz.prog 93 6 6 91 := tqD
instance : TyPlaces Tryz.prog 93 (([(0, 1), (1, 1), (2, 1), (3, 1), (4, 1), (5, 1), (6, 1)] : List (Nat × Nat))[·]?) := mkTyPlaces (by kernel_rfl)
instance : TyA Tryz.prog 94 5 := tqA
instance : TyIface Tryz.prog 94 false := tqI
instance : TySz Tryz.prog 94 5 := tqN
instance : TyBytes Tryz.prog 94 40 := tqB
instance : TyZero Tryz.prog 94 (.agg ⟨[.int .i64 0, .int .u64 0, .int .u64 0, .int .u64 0, .int .i64 0]⟩) := tqO
instance : NoGuard Tryz.prog 94 := ⟨by kernel_rfl⟩
instance : Fld Tryz.prog 94 0 0 3 := tqD
instance : Fld Tryz.prog 94 1 1 24 := tqD
instance : Fld Tryz.prog 94 2 2 24 := tqD
instance : Fld Tryz.prog 94 3 3 24 := tqD
instance : Fld Tryz.prog 94 4 4 3 := tqD
instance : TyPlaces Tryz.prog 94 (([(0, 1), (1, 1), (2, 1), (3, 1), (4, 1)] : List (Nat × Nat))[·]?) := mkTyPlaces (by kernel_rfl)
instance : TyA Tryz.prog 95 5 := tqA
instance : TyIface Tryz.prog 95 false := tqI
instance : TySz Tryz.prog 95 5 := tqN
instance : TyBytes Tryz.prog 95 40 := tqB
instance : TyZero Tryz.prog 95 (.agg ⟨[.int .i64 0, .int .u64 0, .int .u64 0, .int .u64 0, .int .i64 0]⟩) := tqO
instance : NoGuard Tryz.prog 95 := ⟨by kernel_rfl⟩
instance : TyFlds Tryz.prog 95 [(0, 3), (1, 24), (2, 24), (3, 24), (4, 3)] := mkTyFlds (by kernel_rfl)
instance : Fld Tryz.prog 95 0 0 3 := tqD
instance : Fld Tryz.prog 95 1 1 24 := tqD
instance : Fld Tryz.prog 95 2 2 24 := tqD
instance : Fld Tryz.prog 95 3 3 24 := tqD
instance : Fld Tryz.prog 95 4 4 3 := tqD
instance : TyPlaces Tryz.prog 95 (([(0, 1), (1, 1), (2, 1), (3, 1), (4, 1)] : List (Nat × Nat))[·]?) := mkTyPlaces (by kernel_rfl)
instance : TyS Tryz.prog 96 := tqS
instance : TyIface Tryz.prog 96 false := tqI
instance : TyFunc Tryz.prog 96 := tqF
instance : TySz Tryz.prog 96 1 := tqN
instance : TyBytes Tryz.prog 96 8 := tqB
instance : TyZero Tryz.prog 96 (.nilFunc) := tqO
instance : TyA Tryz.prog 119 2 := tqA
instance : TyIface Tryz.prog 119 false := tqI
instance : TySz Tryz.prog 119 2 := tqN
instance : TyBytes Tryz.prog 119 16 := tqB
instance : TyZero Tryz.prog 119 (.agg ⟨[.int .i64 0, .int .u64 0]⟩) := tqO
instance : NoGuard Tryz.prog 119 := ⟨by kernel_rfl⟩
instance : Fld Tryz.prog 119 0 0 3 := tqD
instance : Fld Tryz.prog 119 1 1 24 := tqD
instance : TyPlaces Tryz.prog 119 (([(0, 1), (1, 1)] : List (Nat × Nat))[·]?) := mkTyPlaces (by kernel_rfl)
instance : TyA Tryz.prog 120 2 := tqA
instance : TyIface Tryz.prog 120 false := tqI
instance : TySz Tryz.prog 120 2 := tqN
instance : TyBytes Tryz.prog 120 16 := tqB
instance : TyZero Tryz.prog 120 (.agg ⟨[.int .i64 0, .int .u64 0]⟩) := tqO
instance : NoGuard Tryz.prog 120 := ⟨by kernel_rfl⟩
instance : TyFlds Tryz.prog 120 [(0, 3), (1, 24)] := mkTyFlds (by kernel_rfl)
instance : Fld Tryz.prog 120 0 0 3 := tqD
instance : Fld Tryz.prog 120 1 1 24 := tqD
instance : TyPlaces Tryz.prog 120 (([(0, 1), (1, 1)] : List (Nat × Nat))[·]?) := mkTyPlaces (by kernel_rfl)
instance : TyS Tryz.prog 127 := tqS
instance : TyIface Tryz.prog 127 false := tqI
instance : TySz Tryz.prog 127 1 := tqN
instance : TyBytes Tryz.prog 127 8 := tqB
instance : TyZero Tryz.prog 127 (.pointer none) := tqO
instance : TyPtr Tryz.prog 127 131 := ⟨by kernel_rfl⟩
instance : TyS Tryz.prog 128 := tqS
instance : TyIface Tryz.prog 128 false := tqI
instance : TySz Tryz.prog 128 1 := tqN
instance : TyBytes Tryz.prog 128 8 := tqB
instance : TyZero Tryz.prog 128 (.pointer none) := tqO
instance : TyPtr Tryz.prog 128 200 := ⟨by kernel_rfl⟩
instance : TyA Tryz.prog 130 13 := tqA
instance : TyIface Tryz.prog 130 false := tqI
instance : TySz Tryz.prog 130 13 := tqN
instance : TyBytes Tryz.prog 130 184 := tqB
instance : TyZero Tryz.prog 130 (.agg ⟨[.pointer none, .slice none 0 0, .int .i64 0, .int .u64 0, .int .i64 0, .int .u64 0, .int .u64 0, .slice none 0 0, .slice none 0 0, .int .i64 0, .slice none 0 0, .slice none 0 0, .bool false]⟩) := tqO
instance : NoGuard Tryz.prog 130 := ⟨by kernel_rfl⟩
instance : Fld Tryz.prog 130 0 0 128 := tqD
instance : Fld Tryz.prog 130 1 1 44 := tqD
instance : Fld Tryz.prog 130 2 2 30 := tqD
instance : Fld Tryz.prog 130 3 12 4 := tqD
instance : TyPlaces Tryz.prog 130 (([(0, 1), (1, 1), (2, 10), (12, 1)] : List (Nat × Nat))[·]?) := mkTyPlaces (by kernel_rfl)
instance : TyA Tryz.prog 131 13 := tqA
instance : TyIface Tryz.prog 131 false := tqI
instance : TySz Tryz.prog 131 13 := tqN
instance : TyBytes Tryz.prog 131 184 := tqB
instance : TyZero Tryz.prog 131 (.agg ⟨[.pointer none, .slice none 0 0, .int .i64 0, .int .u64 0, .int .i64 0, .int .u64 0, .int .u64 0, .slice none 0 0, .slice none 0 0, .int .i64 0, .slice none 0 0, .slice none 0 0, .bool false]⟩) := tqO
instance : NoGuard Tryz.prog 131 := ⟨by kernel_rfl⟩
instance : TyFlds Tryz.prog 131 [(0, 128), (1, 44), (2, 30), (12, 4)] := mkTyFlds (by kernel_rfl)
instance : Fld Tryz.prog 131 0 0 128 := tqD
instance : Fld Tryz.prog 131 1 1 44 := tqD
instance : Fld Tryz.prog 131 2 2 30 := tqD
instance : Fld Tryz.prog 131 3 12 4 := tqD
instance : TyPlaces Tryz.prog 131 (([(0, 1), (1, 1), (2, 10), (12, 1)] : List (Nat × Nat))[·]?) := mkTyPlaces (by kernel_rfl)
instance : TyS Tryz.prog 134 := tqS
instance : TyIface Tryz.prog 134 false := tqI
instance : TySz Tryz.prog 134 1 := tqN
instance : TyBytes Tryz.prog 134 4 := tqB
instance : TyZero Tryz.prog 134 (.int .u32 0) := tqO
instance : TyInt Tryz.prog 134 .u32 := ⟨by kernel_rfl⟩
instance : TyS Tryz.prog 136 := tqS
instance : TyIface Tryz.prog 136 false := tqI
instance : TySz Tryz.prog 136 1 := tqN
instance : TyBytes Tryz.prog 136 8 := tqB
instance : TyZero Tryz.prog 136 (.map none) := tqO
instance : TyMap Tryz.prog 136 3 1 := ⟨by kernel_rfl⟩
instance : TyS Tryz.prog 138 := tqS
instance : TyIface Tryz.prog 138 false := tqI
instance : TySz Tryz.prog 138 1 := tqN
instance : TyBytes Tryz.prog 138 8 := tqB
instance : TyZero Tryz.prog 138 (.pointer none) := tqO
instance : TyPtr Tryz.prog 138 140 := ⟨by kernel_rfl⟩
instance : TyA Tryz.prog 139 2 := tqA
instance : TyIface Tryz.prog 139 false := tqI
instance : TySz Tryz.prog 139 2 := tqN
instance : TyBytes Tryz.prog 139 32 := tqB
instance : TyZero Tryz.prog 139 (.agg ⟨[.slice none 0 0, .bool false]⟩) := tqO
instance : NoGuard Tryz.prog 139 := ⟨by kernel_rfl⟩
instance : Fld Tryz.prog 139 0 0 44 := tqD
instance : Fld Tryz.prog 139 1 1 4 := tqD
instance : TyPlaces Tryz.prog 139 (([(0, 1), (1, 1)] : List (Nat × Nat))[·]?) := mkTyPlaces (by kernel_rfl)
instance : TyA Tryz.prog 140 2 := tqA
instance : TyIface Tryz.prog 140 false := tqI
instance : TySz Tryz.prog 140 2 := tqN
instance : TyBytes Tryz.prog 140 32 := tqB
instance : TyZero Tryz.prog 140 (.agg ⟨[.slice none 0 0, .bool false]⟩) := tqO
instance : NoGuard Tryz.prog 140 := ⟨by kernel_rfl⟩
instance : TyFlds Tryz.prog 140 [(0, 44), (1, 4)] := mkTyFlds (by kernel_rfl)
instance : Fld Tryz.prog 140 0 0 44 := tqD
instance : Fld Tryz.prog 140 1 1 4 := tqD
instance : TyPlaces Tryz.prog 140 (([(0, 1), (1, 1)] : List (Nat × Nat))[·]?) := mkTyPlaces (by kernel_rfl)
instance : TyS Tryz.prog 143 := tqS
instance : TyIface Tryz.prog 143 false := tqI
instance : TyFunc Tryz.prog 143 := tqF
instance : TySz Tryz.prog 143 1 := tqN
instance : TyBytes Tryz.prog 143 8 := tqB
instance : TyZero Tryz.prog 143 (.nilFunc) := tqO
instance : TyS Tryz.prog 144 := tqS
instance : TyIface Tryz.prog 144 false := tqI
instance : TyFunc Tryz.prog 144 := tqF
instance : TySz Tryz.prog 144 1 := tqN
instance : TyBytes Tryz.prog 144 8 := tqB
instance : TyZero Tryz.prog 144 (.nilFunc) := tqO
instance : TyS Tryz.prog 150 := tqS
instance : TyIface Tryz.prog 150 false := tqI
instance : TySz Tryz.prog 150 1 := tqN
instance : TyBytes Tryz.prog 150 8 := tqB
instance : TyZero Tryz.prog 150 (.pointer none) := tqO
instance : TyPtr Tryz.prog 150 152 := ⟨by kernel_rfl⟩
instance : TyA Tryz.prog 151 10 := tqA
instance : TyIface Tryz.prog 151 false := tqI
instance : TySz Tryz.prog 151 10 := tqN
instance : TyBytes Tryz.prog 151 144 := tqB
instance : TyZero Tryz.prog 151 (.agg ⟨[.int .i64 0, .int .u64 0, .int .i64 0, .int .u64 0, .int .u64 0, .slice none 0 0, .slice none 0 0, .int .i64 0, .slice none 0 0, .slice none 0 0]⟩) := tqO
instance : NoGuard Tryz.prog 151 := ⟨by kernel_rfl⟩
instance : Fld Tryz.prog 151 0 0 30 := tqD
instance : TyPlaces Tryz.prog 151 (([(0, 10)] : List (Nat × Nat))[·]?) := mkTyPlaces (by kernel_rfl)
instance : TyA Tryz.prog 152 10 := tqA
instance : TyIface Tryz.prog 152 false := tqI
instance : TySz Tryz.prog 152 10 := tqN
instance : TyBytes Tryz.prog 152 144 := tqB
instance : TyZero Tryz.prog 152 (.agg ⟨[.int .i64 0, .int .u64 0, .int .i64 0, .int .u64 0, .int .u64 0, .slice none 0 0, .slice none 0 0, .int .i64 0, .slice none 0 0, .slice none 0 0]⟩) := tqO
instance : NoGuard Tryz.prog 152 := ⟨by kernel_rfl⟩
instance : TyFlds Tryz.prog 152 [(0, 30)] := mkTyFlds (by kernel_rfl)
instance : Fld Tryz.prog 152 0 0 30 := tqD
instance : TyPlaces Tryz.prog 152 (([(0, 10)] : List (Nat × Nat))[·]?) := mkTyPlaces (by kernel_rfl)
instance : TyS Tryz.prog 153 := tqS
instance : TyIface Tryz.prog 153 false := tqI
instance : TySz Tryz.prog 153 1 := tqN
instance : TyBytes Tryz.prog 153 8 := tqB
instance : TyZero Tryz.prog 153 (.map none) := tqO
instance : TyMap Tryz.prog 153 3 23 := ⟨by kernel_rfl⟩
instance : TyS Tryz.prog 157 := tqS
instance : TyIface Tryz.prog 157 false := tqI
instance : TyFunc Tryz.prog 157 := tqF
instance : TySz Tryz.prog 157 1 := tqN
instance : TyBytes Tryz.prog 157 8 := tqB
instance : TyZero Tryz.prog 157 (.nilFunc) := tqO
instance : TyS Tryz.prog 162 := tqS
instance : TyIface Tryz.prog 162 false := tqI
instance : TyFunc Tryz.prog 162 := tqF
instance : TySz Tryz.prog 162 1 := tqN
instance : TyBytes Tryz.prog 162 8 := tqB
instance : TyZero Tryz.prog 162 (.nilFunc) := tqO
instance : TyA Tryz.prog 163 3 := tqA
instance : TyIface Tryz.prog 163 false := tqI
instance : TySz Tryz.prog 163 3 := tqN
instance : TyBytes Tryz.prog 163 24 := tqB
instance : TyZero Tryz.prog 163 (.agg ⟨[.int .i64 0, .int .u16 0, .int .i64 0]⟩) := tqO
instance : NoGuard Tryz.prog 163 := ⟨by kernel_rfl⟩
instance : Fld Tryz.prog 163 0 0 58 := tqD
instance : Fld Tryz.prog 163 1 2 3 := tqD
instance : TyPlaces Tryz.prog 163 (([(0, 2), (2, 1)] : List (Nat × Nat))[·]?) := mkTyPlaces (by kernel_rfl)
instance : TyA Tryz.prog 164 3 := tqA
instance : TyIface Tryz.prog 164 false := tqI
instance : TySz Tryz.prog 164 3 := tqN
instance : TyBytes Tryz.prog 164 24 := tqB
instance : TyZero Tryz.prog 164 (.agg ⟨[.int .i64 0, .int .u16 0, .int .i64 0]⟩) := tqO
instance : NoGuard Tryz.prog 164 := ⟨by kernel_rfl⟩
instance : TyFlds Tryz.prog 164 [(0, 58), (2, 3)] := mkTyFlds (by kernel_rfl)
instance : Fld Tryz.prog 164 0 0 58 := tqD
instance : Fld Tryz.prog 164 1 2 3 := tqD
instance : TyPlaces Tryz.prog 164 (([(0, 2), (2, 1)] : List (Nat × Nat))[·]?) := mkTyPlaces (by kernel_rfl)
instance : TyA Tryz.prog 171 2 := tqA
instance : TyIface Tryz.prog 171 false := tqI
instance : TySz Tryz.prog 171 2 := tqN
instance : TyBytes Tryz.prog 171 16 := tqB
instance : TyZero Tryz.prog 171 (.agg ⟨[.int .u64 0, .int .i64 0]⟩) := tqO
instance : NoGuard Tryz.prog 171 := ⟨by kernel_rfl⟩
instance : Fld Tryz.prog 171 0 0 24 := tqD
instance : Fld Tryz.prog 171 1 1 3 := tqD
instance : TyPlaces Tryz.prog 171 (([(0, 1), (1, 1)] : List (Nat × Nat))[·]?) := mkTyPlaces (by kernel_rfl)
instance : TyA Tryz.prog 172 2 := tqA
instance : TyIface Tryz.prog 172 false := tqI
instance : TySz Tryz.prog 172 2 := tqN
instance : TyBytes Tryz.prog 172 16 := tqB
instance : TyZero Tryz.prog 172 (.agg ⟨[.int .u64 0, .int .i64 0]⟩) := tqO
instance : NoGuard Tryz.prog 172 := ⟨by kernel_rfl⟩
instance : TyFlds Tryz.prog 172 [(0, 24), (1, 3)] := mkTyFlds (by kernel_rfl)
instance : Fld Tryz.prog 172 0 0 24 := tqD
instance : Fld Tryz.prog 172 1 1 3 := tqD
instance : TyPlaces Tryz.prog 172 (([(0, 1), (1, 1)] : List (Nat × Nat))[·]?) := mkTyPlaces (by kernel_rfl)
instance : TyS Tryz.prog 176 := tqS
instance : TyIface Tryz.prog 176 false := tqI
instance : TyFunc Tryz.prog 176 := tqF
instance : TySz Tryz.prog 176 1 := tqN
instance : TyBytes Tryz.prog 176 8 := tqB
instance : TyZero Tryz.prog 176 (.nilFunc) := tqO
instance : TyS Tryz.prog 184 := tqS
instance : TyIface Tryz.prog 184 false := tqI
instance : TySz Tryz.prog 184 1 := tqN
instance : TyBytes Tryz.prog 184 8 := tqB
instance : TyZero Tryz.prog 184 (.int .u64 0) := tqO
instance : TyInt Tryz.prog 184 .u64 := ⟨by kernel_rfl⟩
instance : TyS Tryz.prog 196 := tqS
instance : TyIface Tryz.prog 196 false := tqI
instance : TyFunc Tryz.prog 196 := tqF
instance : TySz Tryz.prog 196 1 := tqN
instance : TyBytes Tryz.prog 196 8 := tqB
instance : TyZero Tryz.prog 196 (.nilFunc) := tqO
instance : TyS Tryz.prog 198 := tqS
instance : TyIface Tryz.prog 198 false := tqI
instance : TySz Tryz.prog 198 1 := tqN
instance : TyBytes Tryz.prog 198 24 := tqB
instance : TyZero Tryz.prog 198 (.slice none 0 0) := tqO
instance : TySlice Tryz.prog 198 5 := ⟨by kernel_rfl⟩
instance : TyA Tryz.prog 199 2 := tqA
instance : TyIface Tryz.prog 199 false := tqI
instance : TySz Tryz.prog 199 2 := tqN
instance : TyBytes Tryz.prog 199 32 := tqB
instance : TyZero Tryz.prog 199 (.agg ⟨[.slice none 0 0, .int .i64 0]⟩) := tqO
instance : NoGuard Tryz.prog 199 := ⟨by kernel_rfl⟩
instance : Fld Tryz.prog 199 0 0 198 := tqD
instance : Fld Tryz.prog 199 1 1 35 := tqD
instance : TyPlaces Tryz.prog 199 (([(0, 1), (1, 1)] : List (Nat × Nat))[·]?) := mkTyPlaces (by kernel_rfl)
instance : TyA Tryz.prog 200 2 := tqA
instance : TyIface Tryz.prog 200 false := tqI
instance : TySz Tryz.prog 200 2 := tqN
instance : TyBytes Tryz.prog 200 32 := tqB
instance : TyZero Tryz.prog 200 (.agg ⟨[.slice none 0 0, .int .i64 0]⟩) := tqO
instance : NoGuard Tryz.prog 200 := ⟨by kernel_rfl⟩
instance : TyFlds Tryz.prog 200 [(0, 198), (1, 35)] := mkTyFlds (by kernel_rfl)
instance : Fld Tryz.prog 200 0 0 198 := tqD
instance : Fld Tryz.prog 200 1 1 35 := tqD
instance : TyPlaces Tryz.prog 200 (([(0, 1), (1, 1)] : List (Nat × Nat))[·]?) := mkTyPlaces (by kernel_rfl)
instance : TyS Tryz.prog 203 := tqS
instance : TyIface Tryz.prog 203 false := tqI
instance : TyFunc Tryz.prog 203 := tqF
instance : TySz Tryz.prog 203 1 := tqN
instance : TyBytes Tryz.prog 203 8 := tqB
instance : TyZero Tryz.prog 203 (.nilFunc) := tqO
instance : TyS Tryz.prog 204 := tqS
instance : TyIface Tryz.prog 204 false := tqI
instance : TyFunc Tryz.prog 204 := tqF
instance : TySz Tryz.prog 204 1 := tqN
instance : TyBytes Tryz.prog 204 8 := tqB
instance : TyZero Tryz.prog 204 (.nilFunc) := tqO
instance : TyS Tryz.prog 207 := tqS
instance : TyIface Tryz.prog 207 false := tqI
instance : TyFunc Tryz.prog 207 := tqF
instance : TySz Tryz.prog 207 1 := tqN
instance : TyBytes Tryz.prog 207 8 := tqB
instance : TyZero Tryz.prog 207 (.nilFunc) := tqO
instance : TyS Tryz.prog 210 := tqS
instance : TyIface Tryz.prog 210 false := tqI
instance : TyFunc Tryz.prog 210 := tqF
instance : TySz Tryz.prog 210 1 := tqN
instance : TyBytes Tryz.prog 210 8 := tqB
instance : TyZero Tryz.prog 210 (.nilFunc) := tqO
instance : TyS Tryz.prog 212 := tqS
instance : TyIface Tryz.prog 212 false := tqI
instance : TyFunc Tryz.prog 212 := tqF
instance : TySz Tryz.prog 212 1 := tqN
instance : TyBytes Tryz.prog 212 8 := tqB
instance : TyZero Tryz.prog 212 (.nilFunc) := tqO
instance : TyS Tryz.prog 216 := tqS
instance : TyIface Tryz.prog 216 false := tqI
instance : TySz Tryz.prog 216 1 := tqN
instance : TyBytes Tryz.prog 216 8 := tqB
instance : TyZero Tryz.prog 216 (.pointer none) := tqO
instance : TyPtr Tryz.prog 216 218 := ⟨by kernel_rfl⟩
instance : TyA Tryz.prog 217 11 := tqA
instance : TyIface Tryz.prog 217 false := tqI
instance : TySz Tryz.prog 217 11 := tqN
instance : TyBytes Tryz.prog 217 168 := tqB
instance : TyZero Tryz.prog 217 (.agg ⟨[.int .i64 0, .int .u64 0, .int .i64 0, .int .u64 0, .int .u64 0, .slice none 0 0, .slice none 0 0, .int .i64 0, .slice none 0 0, .slice none 0 0, .slice none 0 0]⟩) := tqO
instance : NoGuard Tryz.prog 217 := ⟨by kernel_rfl⟩
instance : Fld Tryz.prog 217 0 0 30 := tqD
instance : Fld Tryz.prog 217 1 10 44 := tqD
instance : TyPlaces Tryz.prog 217 (([(0, 10), (10, 1)] : List (Nat × Nat))[·]?) := mkTyPlaces (by kernel_rfl)
instance : TyA Tryz.prog 218 11 := tqA
instance : TyIface Tryz.prog 218 false := tqI
instance : TySz Tryz.prog 218 11 := tqN
instance : TyBytes Tryz.prog 218 168 := tqB
instance : TyZero Tryz.prog 218 (.agg ⟨[.int .i64 0, .int .u64 0, .int .i64 0, .int .u64 0, .int .u64 0, .slice none 0 0, .slice none 0 0, .int .i64 0, .slice none 0 0, .slice none 0 0, .slice none 0 0]⟩) := tqO
instance : NoGuard Tryz.prog 218 := ⟨by kernel_rfl⟩
instance : TyFlds Tryz.prog 218 [(0, 30), (10, 44)] := mkTyFlds (by kernel_rfl)
instance : Fld Tryz.prog 218 0 0 30 := tqD
instance : Fld Tryz.prog 218 1 10 44 := tqD
instance : TyPlaces Tryz.prog 218 (([(0, 10), (10, 1)] : List (Nat × Nat))[·]?) := mkTyPlaces (by kernel_rfl)
instance : TyS Tryz.prog 224 := tqS
instance : TyIface Tryz.prog 224 false := tqI
instance : TyFunc Tryz.prog 224 := tqF
instance : TySz Tryz.prog 224 1 := tqN
instance : TyBytes Tryz.prog 224 8 := tqB
instance : TyZero Tryz.prog 224 (.nilFunc) := tqO
instance : TyS Tryz.prog 227 := tqS
instance : TyIface Tryz.prog 227 false := tqI
instance : TyFunc Tryz.prog 227 := tqF
instance : TySz Tryz.prog 227 1 := tqN
instance : TyBytes Tryz.prog 227 8 := tqB
instance : TyZero Tryz.prog 227 (.nilFunc) := tqO
instance : TyS Tryz.prog 228 := tqS
instance : TyIface Tryz.prog 228 false := tqI
instance : TyFunc Tryz.prog 228 := tqF
instance : TySz Tryz.prog 228 1 := tqN
instance : TyBytes Tryz.prog 228 8 := tqB
instance : TyZero Tryz.prog 228 (.nilFunc) := tqO
instance : TyS Tryz.prog 230 := tqS
instance : TyIface Tryz.prog 230 false := tqI
instance : TyFunc Tryz.prog 230 := tqF
instance : TySz Tryz.prog 230 1 := tqN
instance : TyBytes Tryz.prog 230 8 := tqB
instance : TyZero Tryz.prog 230 (.nilFunc) := tqO
instance : TyS Tryz.prog 231 := tqS
instance : TyIface Tryz.prog 231 false := tqI
instance : TyFunc Tryz.prog 231 := tqF
instance : TySz Tryz.prog 231 1 := tqN
instance : TyBytes Tryz.prog 231 8 := tqB
instance : TyZero Tryz.prog 231 (.nilFunc) := tqO
instance : TyS Tryz.prog 245 := tqS
instance : TyIface Tryz.prog 245 false := tqI
instance : TyFunc Tryz.prog 245 := tqF
instance : TySz Tryz.prog 245 1 := tqN
instance : TyBytes Tryz.prog 245 8 := tqB
instance : TyZero Tryz.prog 245 (.nilFunc) := tqO
instance : TyS Tryz.prog 248 := tqS
instance : TyIface Tryz.prog 248 false := tqI
instance : TyFunc Tryz.prog 248 := tqF
instance : TySz Tryz.prog 248 1 := tqN
instance : TyBytes Tryz.prog 248 8 := tqB
instance : TyZero Tryz.prog 248 (.nilFunc) := tqO
instance : TyS Tryz.prog 251 := tqS
instance : TyIface Tryz.prog 251 false := tqI
instance : TySz Tryz.prog 251 1 := tqN
instance : TyBytes Tryz.prog 251 8 := tqB
instance : TyZero Tryz.prog 251 (.pointer none) := tqO
instance : TyPtr Tryz.prog 251 275 := ⟨by kernel_rfl⟩
instance : TyS Tryz.prog 255 := tqS
instance : TyIface Tryz.prog 255 false := tqI
instance : TyFunc Tryz.prog 255 := tqF
instance : TySz Tryz.prog 255 1 := tqN
instance : TyBytes Tryz.prog 255 8 := tqB
instance : TyZero Tryz.prog 255 (.nilFunc) := tqO
instance : TyS Tryz.prog 266 := tqS
instance : TyIface Tryz.prog 266 false := tqI
instance : TyFunc Tryz.prog 266 := tqF
instance : TySz Tryz.prog 266 1 := tqN
instance : TyBytes Tryz.prog 266 8 := tqB
instance : TyZero Tryz.prog 266 (.nilFunc) := tqO
instance : TyA Tryz.prog 274 6 := tqA
instance : TyIface Tryz.prog 274 false := tqI
instance : TySz Tryz.prog 274 6 := tqN
instance : TyBytes Tryz.prog 274 80 := tqB
instance : TyZero Tryz.prog 274 (.agg ⟨[.pointer none, .int .i64 0, .bool false, .int .i64 0, .slice none 0 0, .slice none 0 0]⟩) := tqO
instance : NoGuard Tryz.prog 274 := ⟨by kernel_rfl⟩
instance : Fld Tryz.prog 274 0 0 128 := tqD
instance : Fld Tryz.prog 274 1 1 3 := tqD
instance : Fld Tryz.prog 274 2 2 4 := tqD
instance : Fld Tryz.prog 274 3 3 66 := tqD
instance : TyPlaces Tryz.prog 274 (([(0, 1), (1, 1), (2, 1), (3, 3)] : List (Nat × Nat))[·]?) := mkTyPlaces (by kernel_rfl)
instance : TyA Tryz.prog 275 6 := tqA
instance : TyIface Tryz.prog 275 false := tqI
instance : TySz Tryz.prog 275 6 := tqN
instance : TyBytes Tryz.prog 275 80 := tqB
instance : TyZero Tryz.prog 275 (.agg ⟨[.pointer none, .int .i64 0, .bool false, .int .i64 0, .slice none 0 0, .slice none 0 0]⟩) := tqO
instance : NoGuard Tryz.prog 275 := ⟨by kernel_rfl⟩
instance : TyFlds Tryz.prog 275 [(0, 128), (1, 3), (2, 4), (3, 66)] := mkTyFlds (by kernel_rfl)
instance : Fld Tryz.prog 275 0 0 128 := tqD
instance : Fld Tryz.prog 275 1 1 3 := tqD
instance : Fld Tryz.prog 275 2 2 4 := tqD
instance : Fld Tryz.prog 275 3 3 66 := tqD
instance : TyPlaces Tryz.prog 275 (([(0, 1), (1, 1), (2, 1), (3, 3)] : List (Nat × Nat))[·]?) := mkTyPlaces (by kernel_rfl)
instance : TyS Tryz.prog 281 := tqS
instance : TyIface Tryz.prog 281 false := tqI
instance : TySz Tryz.prog 281 1 := tqN
instance : TyBytes Tryz.prog 281 24 := tqB
instance : TyZero Tryz.prog 281 (.slice none 0 0) := tqO
instance : TySlice Tryz.prog 281 4 := ⟨by kernel_rfl⟩
instance : TyS Tryz.prog 290 := tqS
instance : TyIface Tryz.prog 290 false := tqI
instance : TyFunc Tryz.prog 290 := tqF
instance : TySz Tryz.prog 290 1 := tqN
instance : TyBytes Tryz.prog 290 8 := tqB
instance : TyZero Tryz.prog 290 (.nilFunc) := tqO
instance : TyS Tryz.prog 293 := tqS
instance : TyIface Tryz.prog 293 false := tqI
instance : TyFunc Tryz.prog 293 := tqF
instance : TySz Tryz.prog 293 1 := tqN
instance : TyBytes Tryz.prog 293 8 := tqB
instance : TyZero Tryz.prog 293 (.nilFunc) := tqO
instance : TyS Tryz.prog 294 := tqS
instance : TyIface Tryz.prog 294 false := tqI
instance : TyFunc Tryz.prog 294 := tqF
instance : TySz Tryz.prog 294 1 := tqN
instance : TyBytes Tryz.prog 294 8 := tqB
instance : TyZero Tryz.prog 294 (.nilFunc) := tqO
instance : TyS Tryz.prog 295 := tqS
instance : TyIface Tryz.prog 295 false := tqI
instance : TySz Tryz.prog 295 1 := tqN
instance : TyBytes Tryz.prog 295 8 := tqB
instance : TyZero Tryz.prog 295 (.map none) := tqO
instance : TyMap Tryz.prog 295 3 4 := ⟨by kernel_rfl⟩
instance : TyS Tryz.prog 297 := tqS
instance : TyIface Tryz.prog 297 false := tqI
instance : TyFunc Tryz.prog 297 := tqF
instance : TySz Tryz.prog 297 1 := tqN
instance : TyBytes Tryz.prog 297 8 := tqB
instance : TyZero Tryz.prog 297 (.nilFunc) := tqO
instance : TyS Tryz.prog 298 := tqS
instance : TyIface Tryz.prog 298 false := tqI
instance : TyFunc Tryz.prog 298 := tqF
instance : TySz Tryz.prog 298 1 := tqN
instance : TyBytes Tryz.prog 298 8 := tqB
instance : TyZero Tryz.prog 298 (.nilFunc) := tqO
instance : TyS Tryz.prog 313 := tqS
instance : TyIface Tryz.prog 313 false := tqI
instance : TyFunc Tryz.prog 313 := tqF
instance : TySz Tryz.prog 313 1 := tqN
instance : TyBytes Tryz.prog 313 8 := tqB
instance : TyZero Tryz.prog 313 (.nilFunc) := tqO
instance : TyS Tryz.prog 314 := tqS
instance : TyIface Tryz.prog 314 false := tqI
instance : TySz Tryz.prog 314 1 := tqN
instance : TyBytes Tryz.prog 314 8 := tqB
instance : TyZero Tryz.prog 314 (.pointer none) := tqO
instance : TyPtr Tryz.prog 314 5 := ⟨by kernel_rfl⟩
instance : TyA Tryz.prog 317 11 := tqA
instance : TyIface Tryz.prog 317 false := tqI
instance : TySz Tryz.prog 317 11 := tqN
instance : TyBytes Tryz.prog 317 48 := tqB
instance : TyZero Tryz.prog 317 (.agg ⟨[.int .u64 0, .int .u64 0, .int .u32 0, .int .u8 0, .int .u8 0, .int .u8 0, .int .u8 0, .nilFunc, .pointer none, .int .i32 0, .int .i32 0]⟩) := tqO
instance : NoGuard Tryz.prog 317 := ⟨by kernel_rfl⟩
instance : Fld Tryz.prog 317 0 0 12 := tqD
instance : Fld Tryz.prog 317 1 1 12 := tqD
instance : Fld Tryz.prog 317 2 2 134 := tqD
instance : Fld Tryz.prog 317 3 3 311 := tqD
instance : Fld Tryz.prog 317 4 4 5 := tqD
instance : Fld Tryz.prog 317 5 5 5 := tqD
instance : Fld Tryz.prog 317 6 6 312 := tqD
instance : Fld Tryz.prog 317 7 7 313 := tqD
instance : Fld Tryz.prog 317 8 8 314 := tqD
instance : Fld Tryz.prog 317 9 9 315 := tqD
instance : Fld Tryz.prog 317 10 10 316 := tqD
instance : TyPlaces Tryz.prog 317 (([(0, 1), (1, 1), (2, 1), (3, 1), (4, 1), (5, 1), (6, 1), (7, 1), (8, 1), (9, 1), (10, 1)] : List (Nat × Nat))[·]?) := mkTyPlaces (by kernel_rfl)
instance : Fun Tryz.prog 4 := tqU
instance : Fun Tryz.prog 5 := tqU
instance : Fun Tryz.prog 6 := tqU
instance : Fun Tryz.prog 7 := tqU
instance : Fun Tryz.prog 8 := tqU
instance : Fun Tryz.prog 9 := tqU
instance : Fun Tryz.prog 10 := tqU
instance : Fun Tryz.prog 23 := tqU
instance : Fun Tryz.prog 24 := tqU
instance : Fun Tryz.prog 25 := tqU
instance : Fun Tryz.prog 26 := tqU
instance : Fun Tryz.prog 27 := tqU
instance : Fun Tryz.prog 28 := tqU
instance : Fun Tryz.prog 29 := tqU
instance : Fun Tryz.prog 30 := tqU
instance : Fun Tryz.prog 31 := tqU
instance : Fun Tryz.prog 32 := tqU
instance : Fun Tryz.prog 33 := tqU
instance : Fun Tryz.prog 34 := tqU
instance : Fun Tryz.prog 35 := tqU
instance : Fun Tryz.prog 36 := tqU
instance : Fun Tryz.prog 37 := tqU
instance : Fun Tryz.prog 38 := tqU
instance : Fun Tryz.prog 39 := tqU
instance : Fun Tryz.prog 40 := tqU
instance : Fun Tryz.prog 41 := tqU
instance : Fun Tryz.prog 42 := tqU
instance : Fun Tryz.prog 74 := tqU
instance : Fun Tryz.prog 78 := tqU
instance : Fun Tryz.prog 79 := tqU
instance : Fun Tryz.prog 80 := tqU
instance : Fun Tryz.prog 81 := tqU
instance : Fun Tryz.prog 82 := tqU
instance : Fun Tryz.prog 83 := tqU
instance : Fun Tryz.prog 84 := tqU
instance : Fun Tryz.prog 85 := tqU
instance : Fun Tryz.prog 86 := tqU
instance : Fun Tryz.prog 87 := tqU
instance : Fun Tryz.prog 88 := tqU
instance : Fun Tryz.prog 89 := tqU
instance : Fun Tryz.prog 90 := tqU
instance : Fun Tryz.prog 91 := tqU
instance : Fun Tryz.prog 92 := tqU
instance : Fun Tryz.prog 93 := tqU
instance : Fun Tryz.prog 94 := tqU
instance : Fun Tryz.prog 95 := tqU
instance : Fun Tryz.prog 96 := tqU
instance : Fun Tryz.prog 97 := tqU
instance : Fun Tryz.prog 98 := tqU
instance : Fun Tryz.prog 99 := tqU
instance : Fun Tryz.prog 100 := tqU
instance : Fun Tryz.prog 101 := tqU
instance : Fun Tryz.prog 102 := tqU
instance : Fun Tryz.prog 103 := tqU
instance : Fun Tryz.prog 104 := tqU
instance : Fun Tryz.prog 105 := tqU
instance : Fun Tryz.prog 106 := tqU
instance : Fun Tryz.prog 107 := tqU
instance : Fun Tryz.prog 108 := tqU
instance : Fun Tryz.prog 109 := tqU
instance : Fun Tryz.prog 110 := tqU
instance : Fun Tryz.prog 111 := tqU
instance : Fun Tryz.prog 112 := tqU
instance : Fun Tryz.prog 113 := tqU
instance : Fun Tryz.prog 114 := tqU
instance : Fun Tryz.prog 115 := tqU
instance : Fun Tryz.prog 116 := tqU
instance : Fun Tryz.prog 117 := tqU
instance : Fun Tryz.prog 118 := tqU
instance : Fun Tryz.prog 123 := tqU
instance : Fun Tryz.prog 129 := tqU
instance : Fun Tryz.prog 144 := tqU
instance : Fun Tryz.prog 146 := tqU
instance : Fun Tryz.prog 150 := tqU
instance : Fun Tryz.prog 151 := tqU
instance : Fun Tryz.prog 152 := tqU
instance : Fun Tryz.prog 153 := tqU
instance : Fun Tryz.prog 154 := tqU
instance : Fun Tryz.prog 155 := tqU
instance : Fun Tryz.prog 156 := tqU
instance : Fun Tryz.prog 157 := tqU
instance : Fun Tryz.prog 158 := tqU
instance : Fun Tryz.prog 159 := tqU
instance : Fun Tryz.prog 160 := tqU
instance : Fun Tryz.prog 161 := tqU
instance : Fun Tryz.prog 162 := tqU
instance : Fun Tryz.prog 163 := tqU
instance : Fun Tryz.prog 164 := tqU
instance : Fun Tryz.prog 165 := tqU
instance : Fun Tryz.prog 166 := tqU
instance : Fun Tryz.prog 167 := tqU
instance : Fun Tryz.prog 168 := tqU
instance : Fun Tryz.prog 169 := tqU
instance : Fun Tryz.prog 170 := tqU
instance : Fun Tryz.prog 171 := tqU
instance : Fun Tryz.prog 172 := tqU
instance : Fun Tryz.prog 173 := tqU
instance : Fun Tryz.prog 174 := tqU
instance : Fun Tryz.prog 175 := tqU
instance : Fun Tryz.prog 176 := tqU
instance : Fun Tryz.prog 177 := tqU
instance : Fun Tryz.prog 178 := tqU
instance : Fun Tryz.prog 179 := tqU
instance : Fun Tryz.prog 180 := tqU
instance : Fun Tryz.prog 181 := tqU
instance : Fun Tryz.prog 182 := tqU
instance : Fun Tryz.prog 183 := tqU
instance : Fun Tryz.prog 184 := tqU
instance : Fun Tryz.prog 185 := tqU
instance : Fun Tryz.prog 186 := tqU
instance : Fun Tryz.prog 187 := tqU
instance : Fun Tryz.prog 188 := tqU
instance : Fun Tryz.prog 189 := tqU
instance : Fun Tryz.prog 190 := tqU
instance : Fun Tryz.prog 191 := tqU
instance : Fun Tryz.prog 192 := tqU
instance : Fun Tryz.prog 193 := tqU
instance : Fun Tryz.prog 196 := tqU
instance : Fun Tryz.prog 201 := tqU
instance : Fun Tryz.prog 210 := tqU
instance : Fun Tryz.prog 213 := tqU
instance : Fun Tryz.prog 214 := tqU
instance : Fun Tryz.prog 215 := tqU
instance : Fun Tryz.prog 216 := tqU
instance : Fun Tryz.prog 217 := tqU
instance : Fun Tryz.prog 218 := tqU
instance : Fun Tryz.prog 219 := tqU
instance : Fun Tryz.prog 220 := tqU
instance : Fun Tryz.prog 221 := tqU
instance : Fun Tryz.prog 222 := tqU
instance : Fun Tryz.prog 223 := tqU
instance : Fun Tryz.prog 224 := tqU
instance : Fun Tryz.prog 225 := tqU
instance : Fun Tryz.prog 226 := tqU
instance : Fun Tryz.prog 227 := tqU
instance : Fun Tryz.prog 228 := tqU
instance : Fun Tryz.prog 229 := tqU
instance : Fun Tryz.prog 230 := tqU
instance : Fun Tryz.prog 231 := tqU
instance : Fun Tryz.prog 232 := tqU
instance : Fun Tryz.prog 233 := tqU
instance : Fun Tryz.prog 234 := tqU
instance : Fun Tryz.prog 235 := tqU
instance : Fun Tryz.prog 236 := tqU
instance : Fun Tryz.prog 237 := tqU
instance : Fun Tryz.prog 238 := tqU
instance : Fun Tryz.prog 239 := tqU
instance : Fun Tryz.prog 240 := tqU
instance : Fun Tryz.prog 247 := tqU
instance : Fun Tryz.prog 248 := tqU
instance : Fun Tryz.prog 249 := tqU
instance : Fun Tryz.prog 250 := tqU
instance : Fun Tryz.prog 251 := tqU
instance : Fun Tryz.prog 252 := tqU
instance : Fun Tryz.prog 253 := tqU
instance : Fun Tryz.prog 254 := tqU
instance : Fun Tryz.prog 255 := tqU
instance : Fun Tryz.prog 256 := tqU
instance : Fun Tryz.prog 257 := tqU
instance : Fun Tryz.prog 258 := tqU
instance : Fun Tryz.prog 259 := tqU
instance : Fun Tryz.prog 260 := tqU
instance : Fun Tryz.prog 263 := tqU
instance : Fun Tryz.prog 266 := tqU
instance : Fun Tryz.prog 267 := tqU
instance : Fun Tryz.prog 268 := tqU
instance : Fun Tryz.prog 269 := tqU
instance : Fun Tryz.prog 270 := tqU
instance : Fun Tryz.prog 271 := tqU
instance : Fun Tryz.prog 272 := tqU
instance : Fun Tryz.prog 273 := tqU
instance : Fun Tryz.prog 274 := tqU
instance : Fun Tryz.prog 275 := tqU
instance : Fun Tryz.prog 276 := tqU
instance : Fun Tryz.prog 277 := tqU
instance : Fun Tryz.prog 279 := tqU
instance : Fun Tryz.prog 280 := tqU
instance : Fun Tryz.prog 281 := tqU
instance : Fun Tryz.prog 282 := tqU
instance : Fun Tryz.prog 283 := tqU
instance : Mixed Tryz.prog := ⟨by kernel_rfl⟩
end Go.Proofs.E

namespace Go.Proofs.E
open Go
set_option linter.unusedVariables false
set_option linter.unusedSimpArgs false
set_option linter.unusedSectionVars false
set_option maxRecDepth 4000
set_option maxHeartbeats 1000000
attribute [local irreducible] Yl TL TC TE Spec YSpec R1 Hp.le EnvLe TS TR YS Stays
/-! ## octet: numbers are laid -/
def z8 (n : Nat) : List UInt8 := List.replicate n 0
theorem stc_mid (A B vs ws : List Value) (h : ws.length = vs.length) : stc (A ++ (vs ++ B)) A.length ws = A ++ (ws ++ B) := by
  unfold stc
  rw [List.take_left, h, ← List.drop_drop, List.drop_left, List.drop_left, List.append_assoc]
theorem u8_wrap (y : Nat) : Value.int .u8 (IntKind.u8.wrap (y : Int)) = u8c (UInt8.ofNat y) := by
  simp only [u8c, UInt8.toNat_ofNat', IntKind.wrap, IntKind.bits, IntKind.signed, Bool.false_and, Bool.false_eq_true, if_false]
  congr 1
theorem made_z8 (m : Nat) : madeCells (Value.int .u8 0).cells m = ⟨(z8 m).map u8c⟩ := by
  have hz : (Value.int IntKind.u8 0).cells = ⟨[u8c 0]⟩ := rfl
  rw [hz]
  apply Array.ext'
  apply List.ext_getElem?
  intro i
  by_cases hi : i < m
  · simp [madeCells, z8, hi, Nat.mod_one]
  · rw [List.getElem?_eq_none (by simp [madeCells]; omega), List.getElem?_eq_none (by simp [z8]; omega)]
theorem own_chunk (b n c : Nat) {xs : List Value} {T : TypeId} : [(b, Obj.cells ⟨xs⟩ T (0, 0))] = ownC (.slice (some ⟨b, 0, none⟩) n c) xs [] T := by simp [ownC]
theorem stand_spec (ρ : Hp) (a : Option Addr) (n c : Nat) (l : List UInt8) (h : SIn ρ u8c a n l) (x p : Nat) (hx : x < 18446744073709551616) (hp : p ≤ 8) (hp1 : 1 ≤ p) (hn : n ≤ 1000000) :
    Spec Tryz.prog 254 [.slice a n c, .int .u64 x, .int .i64 p] ρ [] (fun v ρ' L' => ρ' = ρ ∧ ∃ sp, OwnS v (n + p) ((l ++ be p x).map u8c) sp 1 ∧ L' = [ownC v ((l ++ be p x).map u8c) sp 5]) := by
  have hl := h.len
  refine spec_enter Tryz.func254 rfl rfl rfl fun u R => ?_
  simp only [argsE, List.cons_append, List.nil_append]
  repeat' (first | (refine tl_makeSlice rfl rfl (by omega) (by omega) (by omega) (by omega) rfl (fun hbn => ?_)) | (refine i_op ?_; first | (refine i_qq ?_; refine qQ ?_) | refine qEf ?_) | refine tl_nil ?_ | (refine i_tc ?_; refine qTc ?_) | (refine i_te ?_; refine qTe ?_) | intro _)
  simp only [show ((n : Int) + (p : Int)).toNat = n + p by omega, Nat.mul_one, made_z8]
  have hinit : stc ((z8 (n + p)).map u8c) 0 ((l.map u8c).take (n + p)) = (l ++ (z8 (p - 0) ++ be 0 x)).map u8c := by
    rw [List.take_of_length_le (by simp; omega)]
    unfold stc
    have e : z8 (n + p) = z8 n ++ z8 p := by simp [z8, List.replicate_append_replicate]
    rw [e]
    simp [be, hl, z8]
  refine tl_copy (ys := l.map u8c) rfl rfl (SIn.srcV h) (by simpa using hl) (u8c_one l) (by simp [z8]) rfl ?_
  simp only [hinit]
  repeat' (first | (refine i_op ?_; first | (refine i_qq ?_; refine qQ ?_) | refine qEf ?_) | refine tl_nil ?_ | (refine i_tc ?_; refine qTc ?_) | (refine i_te ?_; refine qTe ?_) | intro _)
  refine tc_loop_g [(6, _), (7, _), (17, _)] (fun (ζ : (Nat) × (Nat)) => [(18, .int .i64 ζ.1), (1, .int .u64 (ζ.2 : Nat))]) (fun (ζ : (Nat) × (Nat)) => ρ) (fun (ζ : (Nat) × (Nat)) => [[(hbn, .cells ⟨(l ++ (z8 (p - ζ.1) ++ be ζ.1 x)).map u8c⟩ 5 (0, 0))]]) (fun (ζ : (Nat) × (Nat)) => ζ.1 ≤ p ∧ ζ.2 = x / 256 ^ ζ.1) (fun (ζ : (Nat) × (Nat)) => p - ζ.1) ((0, x)) (⟨Nat.zero_le _, by simp⟩) ev_le ev_le rfl tk ?_
  rintro ⟨k, y⟩ hI
  try simp only [List.cons_append, List.nil_append, List.append_assoc, List.append_eq] at hI ⊢
  try dsimp only at hI ⊢
  obtain ⟨hk, hy⟩ := hI
  by_cases hlt : k < p
  · have hlen : ((l ++ (z8 (p - k) ++ be k x)).map u8c).length = n + p := by simp [z8, be_length, hl]; omega
    have hst : stc ((l ++ (z8 (p - k) ++ be k x)).map u8c) (0 + ((n : Int) + (p : Int) - 1 - k).toNat * 1) [u8c (UInt8.ofNat y)] = (l ++ (z8 (p - (k + 1)) ++ be (k + 1) x)).map u8c := by
      have e1 : z8 (p - k) = z8 (p - (k + 1)) ++ [0] := by
        rw [show p - k = (p - (k + 1)) + 1 by omega]; simp [z8, List.replicate_succ']
      have e2 : 0 + ((n : Int) + (p : Int) - 1 - k).toNat * 1 = ((l ++ z8 (p - (k + 1))).map u8c).length := by simp [z8, hl]; omega
      have e3 : (l ++ (z8 (p - k) ++ be k x)).map u8c = (l ++ z8 (p - (k + 1))).map u8c ++ ([u8c 0] ++ (be k x).map u8c) := by rw [e1]; simp
      rw [e2, e3, stc_mid _ _ [u8c 0] [u8c (UInt8.ofNat y)] rfl, be, ← hy]
      simp
    have hyy : y / 256 = x / 256 ^ (k + 1) := by rw [hy, Nat.div_div_eq_div_mul, Nat.pow_succ]
    repeat' (first | (refine i_op ?_; first | (refine i_qq ?_; refine qQ ?_) | refine qEf ?_) | refine tl_nil ?_ | (refine i_tc ?_; refine qTc ?_) | (refine i_te ?_; refine qTe ?_) | intro _)
    have e8 : (y : Int) / 2 ^ 8 = ((x / 256 ^ (k + 1) : Nat) : Int) := by
      rw [← hyy]
      have : (2 : Int) ^ 8 = 256 := by decide
      omega
    rw [e8, u8_wrap, Int.natCast_add, hst]
    refine te_round_g (k + 1, x / 256 ^ (k + 1)) (⟨hlt, rfl⟩) ev_le ev_le rfl tk inferInstance (by first | omega | (dsimp only; omega))
  · have hk2 : k = p := by omega
    subst hk2
    simp only [Nat.sub_self, z8, List.replicate_zero, List.nil_append]
    repeat' (first | (refine i_op ?_; first | (refine i_qq ?_; refine qQ ?_) | refine qEf ?_) | refine tl_nil ?_ | (refine i_tc ?_; refine qTc ?_) | (refine i_te ?_; refine qTe ?_) | intro _)
    rw [own_chunk hbn (n + k) (n + k)]
    exact qE ⟨rfl, [], ⟨.inr ⟨hbn, n + k, rfl, by simp [be_length, hl], by simp [be_length, hl], Nat.le_refl _⟩⟩, rfl⟩
theorem put16_spec (ρ : Hp) (a : Option Addr) (n c : Nat) (l : List UInt8) (h : SIn ρ u8c a n l) (x : Nat) (hx : x < 65536) (hn : n ≤ 1000000) :
    Spec Tryz.prog 229 [.slice a n c, .int .u16 x] ρ [] (fun v ρ' L' => ρ' = ρ ∧ ∃ sp, OwnS v (n + 2) ((l ++ be 2 x).map u8c) sp 1 ∧ L' = [ownC v ((l ++ be 2 x).map u8c) sp 5]) := by
  have hw : IntKind.u64.wrap (x : Int) = x := wrap_id (by simp only [lo, hi]; omega)
  have hs := stand_spec ρ a n c l h x 2 (by omega) (by omega) (by omega) hn
  refine spec_enter Tryz.func229 rfl rfl rfl fun u R => ?_
  simp only [argsE, List.cons_append, List.nil_append]
  repeat' (first | (refine iCv ?_; refine tl_y (y_conv rfl) rfl rfl ?_; rw [hw]) | (refine tl_is (.func 254) ?_; refine qC rfl rfl (hs) ?_; rintro v ρ' L' hle ⟨rfl, sp, hown, rfl⟩ <;> (try simp only [kM, kN, kO])) | (refine i_op ?_; first | (refine i_qq ?_; refine qQ ?_) | refine qEf ?_) | refine tl_nil ?_ | (refine i_tc ?_; refine qTc ?_) | (refine i_te ?_; refine qTe ?_) | intro _)
  exact qE ⟨rfl, sp, hown, rfl⟩
theorem put64_spec (ρ : Hp) (a : Option Addr) (n c : Nat) (l : List UInt8) (h : SIn ρ u8c a n l) (x : Nat) (hx : x < 18446744073709551616) (hn : n ≤ 1000000) :
    Spec Tryz.prog 225 [.slice a n c, .int .u64 x] ρ [] (fun v ρ' L' => ρ' = ρ ∧ ∃ sp, OwnS v (n + 8) ((l ++ be 8 x).map u8c) sp 1 ∧ L' = [ownC v ((l ++ be 8 x).map u8c) sp 5]) := by
  have hs := stand_spec ρ a n c l h x 8 (by omega) (by omega) (by omega) hn
  refine spec_enter Tryz.func225 rfl rfl rfl fun u R => ?_
  simp only [argsE, List.cons_append, List.nil_append]
  repeat' (first | (refine tl_is (.func 254) ?_; refine qC rfl rfl (hs) ?_; rintro v ρ' L' hle ⟨rfl, sp, hown, rfl⟩ <;> (try simp only [kM, kN, kO])) | (refine i_op ?_; first | (refine i_qq ?_; refine qQ ?_) | refine qEf ?_) | refine tl_nil ?_ | (refine i_tc ?_; refine qTc ?_) | (refine i_te ?_; refine qTe ?_) | intro _)
  exact qE ⟨rfl, sp, hown, rfl⟩
end Go.Proofs.E

namespace Go.Proofs.E
open Go
set_option linter.unusedVariables false
set_option linter.unusedSimpArgs false
set_option linter.unusedSectionVars false
set_option maxRecDepth 4000
set_option maxHeartbeats 1000000
attribute [local irreducible] Yl TL TC TE Spec YSpec R1 Hp.le EnvLe TS TR YS Stays
/-! ## octet: the reader -/
theorem OwnS.zero (b sz : Nat) : OwnS (.slice (some ⟨b, 0, none⟩) 0 0) 0 [] [] sz := ⟨.inr ⟨b, 0, rfl, by simp, by simp, Nat.le_refl _⟩⟩
abbrev rdC (br : Nat) (a : Option Addr) (n c : Nat) (st : Int) : List (Nat × Obj) := [(br, .cells ⟨[.slice a n c, .int .i64 st]⟩ 200 (0, 0))]
theorem bclone_spec (ρ : Hp) (a : Option Addr) (n c : Nat) (l : List UInt8) (h : SIn ρ u8c a n l) (hn : n ≤ 1000000) :
    Spec Tryz.prog 150 [.slice a n c] ρ [] (fun v ρ' L' => ρ.le ρ' ∧ ∃ a' c', v = .slice a' n c' ∧ n ≤ c' ∧ SIn ρ' u8c a' n l ∧ L' = []) := by
  refine spec_enter Tryz.func150 rfl rfl rfl fun u R => ?_
  simp only [argsE, List.cons_append, List.nil_append]
  cases a with
  | none =>
    have hn0 : n = 0 := by
      rcases h.out with h0 | ⟨b, off, C, T, fr, h1, _⟩
      · exact h0
      · cases h1
    subst hn0
    repeat' (first | (refine i_op ?_; first | (refine i_qq ?_; refine qQ ?_) | refine qEf ?_) | refine tl_nil ?_ | (refine i_tc ?_; refine qTc ?_) | (refine i_te ?_; refine qTe ?_) | intro _)
    exact qE ⟨Hp.le_refl _, none, 0, rfl, Nat.le_refl _, ⟨h.len, .inl rfl⟩, rfl⟩
  | some a =>
    repeat' (first | (refine i_op ?_; first | (refine i_qq ?_; refine qQ ?_) | refine qEf ?_) | refine tl_nil ?_ | (refine i_tc ?_; refine qTc ?_) | (refine i_te ?_; refine qTe ?_) | intro _)
    refine tl_app (n := 0) (xs := []) (sp := []) (ys := l.map u8c) (sz := 1) rfl rfl (OwnS.zero _ 1) (hR := rem_here') (SIn.srcV h) (by simpa using h.len) (u8c_one l) (by decide) rfl (by omega) (by omega) rfl (fun v' sp' hown' => ?_)
    simp only [Nat.zero_add, List.nil_append] at hown' ⊢
    repeat' (first | (refine i_op ?_; first | (refine i_qq ?_; refine qQ ?_) | refine qEf ?_) | refine tl_nil ?_ | (refine i_tc ?_; refine qTc ?_) | (refine i_te ?_; refine qTe ?_) | intro _)
    refine te_freeze _ (h := Rem.here) (fun ρ' hle hfz => ?_)
    obtain ⟨a', c', rfl, hc, hs⟩ := hown'.sIn hfz
    exact qE ⟨hle, a', c', rfl, hc, hs, rfl⟩
theorem read_spec (ρ : Hp) (a : Option Addr) (n c : Nat) (l : List UInt8) (h : SIn ρ u8c a n l) (hn : n ≤ 1000000) :
    Spec Tryz.prog 78 [.slice a n c] ρ [] (fun v ρ' L' => ρ.le ρ' ∧ ∃ br a' c', v = .pointer (some ⟨br, 0, none⟩) ∧ n ≤ c' ∧ SIn ρ' u8c a' n l ∧ L' = [rdC br a' n c' 0]) := by
  have hc := bclone_spec ρ a n c l h hn
  refine spec_enter Tryz.func78 rfl rfl rfl fun u R => ?_
  simp only [argsE, List.cons_append, List.nil_append]
  repeat' (first | (refine tl_is (.func 150) ?_; refine qC rfl rfl (hc) ?_; rintro v ρ' L' hle ⟨hle, a', c', rfl, hc', hs, rfl⟩ <;> (try simp only [kM, kN, kO])) | (refine i_op ?_; first | (refine i_qq ?_; refine qQ ?_) | refine qEf ?_) | refine tl_nil ?_ | (refine i_tc ?_; refine qTc ?_) | (refine i_te ?_; refine qTe ?_) | intro _)
  exact qE ⟨hle, _, a', c', rfl, hc', hs, rfl⟩
theorem err_spec (ρ : Hp) (br : Nat) (a : Option Addr) (n c : Nat) (st : Int) :
    Spec Tryz.prog 165 [.pointer (some ⟨br, 0, none⟩)] ρ [rdC br a n c st] (fun v ρ' L' => v = .int .i64 st ∧ ρ' = ρ ∧ L' = [rdC br a n c st]) := by
  refine spec_enter Tryz.func165 rfl rfl rfl fun u R => ?_
  simp only [argsE, List.cons_append, List.nil_append]
  repeat' (first | (refine i_op ?_; first | (refine i_qq ?_; refine qQ ?_) | refine qEf ?_) | refine tl_nil ?_ | (refine i_tc ?_; refine qTc ?_) | (refine i_te ?_; refine qTe ?_) | intro _)
  exact qE ⟨rfl, rfl, rfl⟩
theorem left_spec (ρ : Hp) (br : Nat) (a : Option Addr) (n c : Nat) (st : Int) :
    Spec Tryz.prog 88 [.pointer (some ⟨br, 0, none⟩)] ρ [rdC br a n c st] (fun v ρ' L' => v = .int .i64 n ∧ ρ' = ρ ∧ L' = [rdC br a n c st]) := by
  refine spec_enter Tryz.func88 rfl rfl rfl fun u R => ?_
  simp only [argsE, List.cons_append, List.nil_append]
  repeat' (first | (refine i_op ?_; first | (refine i_qq ?_; refine qQ ?_) | refine qEf ?_) | refine tl_nil ?_ | (refine i_tc ?_; refine qTc ?_) | (refine i_te ?_; refine qTe ?_) | intro _)
  exact qE ⟨rfl, rfl, rfl⟩
theorem gives_stuck (ρ : Hp) (br : Nat) (a : Option Addr) (n c : Nat) (st : Int) (hst : st ≠ 0) (k : Int) (f : Value) :
    Spec Tryz.prog 214 [.pointer (some ⟨br, 0, none⟩), .int .i64 k, f] ρ [rdC br a n c st] (fun v ρ' L' => v = .tuple ⟨[]⟩ ∧ ρ' = ρ ∧ L' = [rdC br a n c st]) := by
  refine spec_enter Tryz.func214 rfl rfl rfl fun u R => ?_
  simp only [argsE, List.cons_append, List.nil_append]
  repeat' (first | (refine tl_is (.func 165) ?_; refine qC rfl rfl (err_spec _ br a n c st) ?_; rintro v ρ' L' hle ⟨rfl, rfl, rfl⟩ <;> (try simp only [kM, kN, kO])) | (refine i_op ?_; first | (refine i_qq ?_; refine qQ ?_) | refine qEf ?_) | refine tl_nil ?_ | (refine i_tc ?_; refine qTc ?_) | (refine i_te ?_; refine qTe ?_) | intro _)
  exact qE ⟨rfl, rfl, rfl⟩
theorem gives_short (ρ : Hp) (br : Nat) (a : Option Addr) (n c : Nat) (k : Int) (hk : (n : Int) < k) (f : Value) :
    Spec Tryz.prog 214 [.pointer (some ⟨br, 0, none⟩), .int .i64 k, f] ρ [rdC br a n c 0] (fun v ρ' L' => v = .tuple ⟨[]⟩ ∧ ρ' = ρ ∧ L' = [rdC br a n c 7]) := by
  refine spec_enter Tryz.func214 rfl rfl rfl fun u R => ?_
  simp only [argsE, List.cons_append, List.nil_append]
  repeat' (first | (refine tl_is (.func 165) ?_; refine qC rfl rfl (err_spec _ br a n c 0) ?_; rintro v ρ' L' hle ⟨rfl, rfl, rfl⟩ <;> (try simp only [kM, kN, kO])) | (refine i_op ?_; first | (refine i_qq ?_; refine qQ ?_) | refine qEf ?_) | refine tl_nil ?_ | (refine i_tc ?_; refine qTc ?_) | (refine i_te ?_; refine qTe ?_) | intro _)
  exact qE ⟨rfl, rfl, rfl⟩
theorem gives_ok (ρ : Hp) (br : Nat) (a : Option Addr) (n c : Nat) (l : List UInt8) (h : SIn ρ u8c a n l) (hc : n ≤ c) (k : Nat) (hk : k ≤ n) (g : Nat) (cs : List Value) (X X' : SH) [Fun Tryz.prog g]
    (hS : SIn ρ u8c a k (l.take k) → Spec Tryz.prog g ([.slice a k c] ++ cs) ρ X (fun v ρ' L' => v = .tuple ⟨[]⟩ ∧ ρ' = ρ ∧ L' = X')) :
    Spec Tryz.prog 214 [.pointer (some ⟨br, 0, none⟩), .int .i64 k, .func (.func g) ⟨[]⟩ ⟨cs⟩] ρ (rdC br a n c 0 :: X)
      (fun v ρ' L' => v = .tuple ⟨[]⟩ ∧ ρ' = ρ ∧ ∃ a' c', SIn ρ u8c a' (n - k) (l.drop k) ∧ n - k ≤ c' ∧ L' = rdC br a' (n - k) c' 0 :: X') := by
  replace hS := hS (h.take hk)
  have hl := h.len
  have hsub := h.sub (lo' := k) (hi' := n) (cap := c) hk (Nat.le_refl _) hc
  rw [List.take_of_length_le (by simp; omega)] at hsub
  refine spec_enter Tryz.func214 rfl rfl rfl fun u R => ?_
  simp only [argsE, List.cons_append, List.nil_append] at hS ⊢
  repeat' (first | (refine tl_is (.func 165) ?_; refine qC rfl rfl (err_spec _ br a n c 0) ?_; rintro v ρ' L' hle ⟨rfl, rfl, rfl⟩ <;> (try simp only [kM, kN, kO])) | (refine tl_is (.tmp 9) ?_; refine qC rfl rfl (hS) ?_; rintro v ρ' L' hle ⟨rfl, rfl, rfl⟩ <;> (try simp only [kM, kN, kO])) | (refine i_op ?_; first | (refine i_qq ?_; refine qQ ?_) | refine qEf ?_) | refine tl_nil ?_ | (refine i_tc ?_; refine qTc ?_) | (refine i_te ?_; refine qTe ?_) | intro _)
  exact qE ⟨rfl, rfl, _, c - k, hsub, by omega, rfl⟩
end Go.Proofs.E

namespace Go.Proofs.E
open Go
set_option linter.unusedVariables false
set_option linter.unusedSimpArgs false
set_option linter.unusedSectionVars false
set_option maxRecDepth 4000
set_option maxHeartbeats 1000000
attribute [local irreducible] Yl TL TC TE Spec YSpec R1 Hp.le EnvLe TS TR YS Stays
theorem take_succ_unbe (l : List UInt8) (k : Nat) (h : k < l.length) : unbe (l.take (k + 1)) = unbe (l.take k) * 256 + l[k].toNat := by
  rw [List.take_succ_eq_append_getElem h, unbe_snoc]
theorem unbe_take_lt (l : List UInt8) (k : Nat) (h : k < l.length) (h8 : l.length ≤ 8) : unbe (l.take k) < 72057594037927936 := by
  have h1 := unbe_lt (l.take k)
  have h2 : (l.take k).length ≤ 7 := by simp; omega
  have h3 : 256 ^ (l.take k).length ≤ 256 ^ 7 := Nat.pow_le_pow_right (by decide) h2
  have h4 : 256 ^ 7 = 72057594037927936 := by decide
  omega
theorem number1_spec (ρ : Hp) (bx : Nat) (a : Option Addr) (n c : Nat) (l : List UInt8) (h : SIn ρ u8c a n l) (hn : n ≤ 8) :
    Spec Tryz.prog 215 [.slice a n c, .pointer (some ⟨bx, 0, none⟩)] ρ [[(bx, .cells ⟨[.int .u64 0]⟩ 24 (0, 0))]]
      (fun v ρ' L' => v = .tuple ⟨[]⟩ ∧ ρ' = ρ ∧ L' = [[(bx, .cells ⟨[.int .u64 (unbe l : Nat)]⟩ 24 (0, 0))]]) := by
  have hl := h.len
  refine spec_enter Tryz.func215 rfl rfl rfl fun u R => ?_
  simp only [argsE, List.cons_append, List.nil_append]
  repeat' (first | (refine i_op ?_; first | (refine i_qq ?_; refine qQ ?_) | refine qEf ?_) | refine tl_nil ?_ | (refine i_tc ?_; refine qTc ?_) | (refine i_te ?_; refine qTe ?_) | intro _)
  refine tc_loop_g [(0, _), (1, _), (5, _)] (fun (ζ : (Nat) × (Nat)) => [(6, .int .i64 ζ.1)]) (fun (ζ : (Nat) × (Nat)) => ρ) (fun (ζ : (Nat) × (Nat)) => [[(bx, .cells ⟨[.int .u64 (ζ.2 : Nat)]⟩ 24 (0, 0))]]) (fun (ζ : (Nat) × (Nat)) => ζ.1 ≤ n ∧ ζ.2 = unbe (l.take ζ.1)) (fun (ζ : (Nat) × (Nat)) => n - ζ.1) ((0, 0)) (⟨Nat.zero_le _, rfl⟩) ev_le ev_le rfl tk ?_
  rintro ⟨k, z⟩ hI
  try simp only [List.cons_append, List.nil_append, List.append_assoc, List.append_eq] at hI ⊢
  try dsimp only at hI ⊢
  obtain ⟨hk, hz⟩ := hI
  by_cases hlt : k < n
  · obtain ⟨b, off, C, T, fr, rfl, hb, hc⟩ := h.get (show k < l.length by omega)
    have hzl := unbe_take_lt l k (by omega) (by omega)
    rw [← hz] at hzl
    have hs := take_succ_unbe l k (by omega)
    have hbt : l[k].toNat < 256 := l[k].toNat_lt
    generalize l[k] = b8 at *
    simp only [u8c] at hc
    repeat' (first | (refine i_op ?_; first | (refine i_qq ?_; refine qQ ?_) | refine qEf ?_) | refine tl_nil ?_ | (refine i_tc ?_; refine qTc ?_) | (refine i_te ?_; refine qTe ?_) | intro _)
    refine tc_any (Stays _ _ ([])) (stays_of (hT := tk) (Hp.le_refl _)) ?_
    all_goals refine rMv 2 ?_
    all_goals refine rMv 3 ?_
    all_goals refine rIa 4 ?_
    all_goals refine rLd 5 ?_
    all_goals refine rCv 6 ?_
    all_goals (refine rStep (i := 0) ?_; ((try refine qWant ?_); (first | (refine i_qq ?_; refine qQ ?_) | (refine qEf ?_; try intro _)) <;> ((try simp only [kM, kN, kO]); refine tl_nil ?_; refine rNext ?_)))
    all_goals refine rMl 1 ?_
    all_goals refine rAd 7 ?_
    all_goals (refine rStep (i := 8) ?_; ((try refine qWant ?_); (first | (refine i_qq ?_; refine qQ ?_) | (refine qEf ?_; try intro _)) <;> ((try simp only [kM, kN, kO]); refine tl_nil ?_; refine rNext ?_)))
    all_goals refine rDone ?_
    have e : 256 * (z : Int) + (b8.toNat : Int) = ((z * 256 + b8.toNat : Nat) : Int) := by omega
    rw [e]
    repeat' (first | (refine i_op ?_; first | (refine i_qq ?_; refine qQ ?_) | refine qEf ?_) | refine tl_nil ?_ | (refine i_tc ?_; refine qTc ?_) | (refine i_te ?_; refine qTe ?_) | intro _)
    refine te_round_g (k + 1, z * 256 + b8.toNat) (⟨hlt, by dsimp only; rw [hs, hz]⟩) ev_le ev_le rfl tk inferInstance (by first | omega | (dsimp only; omega))
  · have hk2 : k = n := by omega
    subst hk2
    rw [List.take_of_length_le (by omega)] at hz
    subst hz
    repeat' (first | (refine i_op ?_; first | (refine i_qq ?_; refine qQ ?_) | refine qEf ?_) | refine tl_nil ?_ | (refine i_tc ?_; refine qTc ?_) | (refine i_te ?_; refine qTe ?_) | intro _)
    exact qE ⟨rfl, rfl, rfl⟩
/-- the number that stands next, of so many bytes -/
def numR (k : Nat) (l : List UInt8) (st : Int) : Nat × List UInt8 × Int := if st ≠ 0 then (0, l, st) else if l.length < k then (0, l, 7) else (unbe (l.take k), l.drop k, 0)
theorem numR_lt (k : Nat) (l : List UInt8) (st : Int) : (numR k l st).1 < 256 ^ k := by
  unfold numR
  have h0 : 0 < 256 ^ k := Nat.pow_pos (by decide)
  split
  · exact h0
  · split
    · exact h0
    · have := unbe_lt (l.take k)
      have e : (l.take k).length = k := by simp; omega
      rwa [e] at this
theorem number_spec (ρ : Hp) (br : Nat) (a : Option Addr) (n c : Nat) (l : List UInt8) (h : SIn ρ u8c a n l) (hc : n ≤ c) (st : Int) (k : Nat) (hk : k ≤ 8) :
    Spec Tryz.prog 151 [.pointer (some ⟨br, 0, none⟩), .int .i64 k] ρ [rdC br a n c st]
      (fun v ρ' L' => v = .int .u64 ((numR k l st).1 : Nat) ∧ ρ' = ρ ∧ ∃ a' n' c', SIn ρ u8c a' n' (numR k l st).2.1 ∧ n' ≤ c' ∧ L' = [rdC br a' n' c' (numR k l st).2.2]) := by
  have hl := h.len
  by_cases hst : st = 0
  · subst hst
    by_cases hs : n < k
    · have e : numR k l 0 = (0, l, 7) := by simp [numR, hl, hs]
      rw [e]
      refine spec_enter Tryz.func151 rfl rfl rfl fun u R => ?_
      simp only [argsE, List.cons_append, List.nil_append]
      repeat' (first | (refine tl_is (.func 214) ?_; refine qC rfl rfl (gives_short _ br a n c k (by omega) _) ?_; rintro v ρ' L' hle ⟨rfl, rfl, rfl⟩ <;> (try simp only [kM, kN, kO])) | (refine i_op ?_; first | (refine i_qq ?_; refine qQ ?_) | refine qEf ?_) | refine tl_nil ?_ | (refine i_tc ?_; refine qTc ?_) | (refine i_te ?_; refine qTe ?_) | intro _)
      exact qE ⟨rfl, rfl, a, n, c, h, hc, rfl⟩
    · have e : numR k l 0 = (unbe (l.take k), l.drop k, 0) := by simp [numR, hl, hs]
      rw [e]
      refine spec_enter Tryz.func151 rfl rfl rfl fun u R => ?_
      simp only [argsE, List.cons_append, List.nil_append]
      repeat' (first | (refine i_op ?_; first | (refine i_qq ?_; refine qQ ?_) | refine qEf ?_) | refine tl_nil ?_ | (refine i_tc ?_; refine qTc ?_) | (refine i_te ?_; refine qTe ?_) | intro _)
      rename_i bx
      have hg := gives_ok ρ br a n c l h hc k (by omega) 215 [.pointer (some ⟨bx, 0, none⟩)] [[(bx, .cells ⟨[.int .u64 0]⟩ 24 (0, 0))]] [[(bx, .cells ⟨[.int .u64 (unbe (l.take k) : Nat)]⟩ 24 (0, 0))]] (fun hs => number1_spec ρ bx a k c (l.take k) hs hk)
      repeat' (first | (refine tl_is (.func 214) ?_; refine qC rfl rfl (hg) ?_; rintro v ρ' L' hle ⟨rfl, rfl, a', c', hs', hc', rfl⟩ <;> (try simp only [kM, kN, kO])) | (refine i_op ?_; first | (refine i_qq ?_; refine qQ ?_) | refine qEf ?_) | refine tl_nil ?_ | (refine i_tc ?_; refine qTc ?_) | (refine i_te ?_; refine qTe ?_) | intro _)
      exact qE ⟨rfl, rfl, a', n - k, c', hs', hc', rfl⟩
  · have e : numR k l st = (0, l, st) := by simp [numR, hst]
    rw [e]
    refine spec_enter Tryz.func151 rfl rfl rfl fun u R => ?_
    simp only [argsE, List.cons_append, List.nil_append]
    repeat' (first | (refine tl_is (.func 214) ?_; refine qC rfl rfl (gives_stuck _ br a n c st hst k _) ?_; rintro v ρ' L' hle ⟨rfl, rfl, rfl⟩ <;> (try simp only [kM, kN, kO])) | (refine i_op ?_; first | (refine i_qq ?_; refine qQ ?_) | refine qEf ?_) | refine tl_nil ?_ | (refine i_tc ?_; refine qTc ?_) | (refine i_te ?_; refine qTe ?_) | intro _)
    exact qE ⟨rfl, rfl, a, n, c, h, hc, rfl⟩
theorem u8_spec (ρ : Hp) (br : Nat) (a : Option Addr) (n c : Nat) (l : List UInt8) (h : SIn ρ u8c a n l) (hc : n ≤ c) (st : Int) :
    Spec Tryz.prog 79 [.pointer (some ⟨br, 0, none⟩)] ρ [rdC br a n c st]
      (fun v ρ' L' => v = .int .u8 ((numR 1 l st).1 : Nat) ∧ ρ' = ρ ∧ ∃ a' n' c', SIn ρ u8c a' n' (numR 1 l st).2.1 ∧ n' ≤ c' ∧ L' = [rdC br a' n' c' (numR 1 l st).2.2]) := by
  have hb := numR_lt 1 l st
  have hn := number_spec ρ br a n c l h hc st 1 (by omega)
  generalize numR 1 l st = r at *
  refine spec_enter Tryz.func79 rfl rfl rfl fun u R => ?_
  simp only [argsE, List.cons_append, List.nil_append]
  repeat' (first | (refine tl_is (.func 151) ?_; refine qC rfl rfl (hn) ?_; rintro v ρ' L' hle ⟨rfl, rfl, a', n', c', hs', hc', rfl⟩ <;> (try simp only [kM, kN, kO])) | (refine i_op ?_; first | (refine i_qq ?_; refine qQ ?_) | refine qEf ?_) | refine tl_nil ?_ | (refine i_tc ?_; refine qTc ?_) | (refine i_te ?_; refine qTe ?_) | intro _)
  exact qE ⟨rfl, rfl, a', n', c', hs', hc', rfl⟩
theorem u16_spec (ρ : Hp) (br : Nat) (a : Option Addr) (n c : Nat) (l : List UInt8) (h : SIn ρ u8c a n l) (hc : n ≤ c) (st : Int) :
    Spec Tryz.prog 160 [.pointer (some ⟨br, 0, none⟩)] ρ [rdC br a n c st]
      (fun v ρ' L' => v = .int .u16 ((numR 2 l st).1 : Nat) ∧ ρ' = ρ ∧ ∃ a' n' c', SIn ρ u8c a' n' (numR 2 l st).2.1 ∧ n' ≤ c' ∧ L' = [rdC br a' n' c' (numR 2 l st).2.2]) := by
  have hb := numR_lt 2 l st
  have hn := number_spec ρ br a n c l h hc st 2 (by omega)
  generalize numR 2 l st = r at *
  refine spec_enter Tryz.func160 rfl rfl rfl fun u R => ?_
  simp only [argsE, List.cons_append, List.nil_append]
  repeat' (first | (refine tl_is (.func 151) ?_; refine qC rfl rfl (hn) ?_; rintro v ρ' L' hle ⟨rfl, rfl, a', n', c', hs', hc', rfl⟩ <;> (try simp only [kM, kN, kO])) | (refine i_op ?_; first | (refine i_qq ?_; refine qQ ?_) | refine qEf ?_) | refine tl_nil ?_ | (refine i_tc ?_; refine qTc ?_) | (refine i_te ?_; refine qTe ?_) | intro _)
  exact qE ⟨rfl, rfl, a', n', c', hs', hc', rfl⟩
theorem u64_spec (ρ : Hp) (br : Nat) (a : Option Addr) (n c : Nat) (l : List UInt8) (h : SIn ρ u8c a n l) (hc : n ≤ c) (st : Int) :
    Spec Tryz.prog 80 [.pointer (some ⟨br, 0, none⟩)] ρ [rdC br a n c st]
      (fun v ρ' L' => v = .int .u64 ((numR 8 l st).1 : Nat) ∧ ρ' = ρ ∧ ∃ a' n' c', SIn ρ u8c a' n' (numR 8 l st).2.1 ∧ n' ≤ c' ∧ L' = [rdC br a' n' c' (numR 8 l st).2.2]) := by
  have hn := number_spec ρ br a n c l h hc st 8 (by omega)
  refine spec_enter Tryz.func80 rfl rfl rfl fun u R => ?_
  simp only [argsE, List.cons_append, List.nil_append]
  repeat' (first | (refine tl_is (.func 151) ?_; refine qC rfl rfl (hn) ?_; rintro v ρ' L' hle ⟨rfl, rfl, a', n', c', hs', hc', rfl⟩ <;> (try simp only [kM, kN, kO])) | (refine i_op ?_; first | (refine i_qq ?_; refine qQ ?_) | refine qEf ?_) | refine tl_nil ?_ | (refine i_tc ?_; refine qTc ?_) | (refine i_te ?_; refine qTe ?_) | intro _)
  exact qE ⟨rfl, rfl, a', n', c', hs', hc', rfl⟩
/-- the next bytes -/
def rawR (k : Nat) (l : List UInt8) (st : Int) : List UInt8 × List UInt8 × Int := if st ≠ 0 then ([], l, st) else if l.length < k then ([], l, 7) else (l.take k, l.drop k, 0)
theorem raw1_spec (ρ : Hp) (bx : Nat) (a : Option Addr) (n c : Nat) (l : List UInt8) (h : SIn ρ u8c a n l) (hn : n ≤ 1000000) :
    Spec Tryz.prog 248 [.slice a n c, .pointer (some ⟨bx, 0, none⟩)] ρ [[(bx, .cells ⟨[.slice none 0 0]⟩ 44 (0, 0))]]
      (fun v ρ' L' => v = .tuple ⟨[]⟩ ∧ ρ.le ρ' ∧ ∃ a' c', SIn ρ' u8c a' n l ∧ n ≤ c' ∧ L' = [[(bx, .cells ⟨[.slice a' n c']⟩ 44 (0, 0))]]) := by
  refine spec_enter Tryz.func248 rfl rfl rfl fun u R => ?_
  simp only [argsE, List.cons_append, List.nil_append]
  repeat' (first | (refine i_op ?_; first | (refine i_qq ?_; refine qQ ?_) | refine qEf ?_) | refine tl_nil ?_ | (refine i_tc ?_; refine qTc ?_) | (refine i_te ?_; refine qTe ?_) | intro _)
  refine tl_app (n := 0) (xs := []) (sp := []) (ys := l.map u8c) (sz := 1) rfl rfl (OwnS.nil 1) (hR := rem_nil') (SIn.srcV h) (by simpa using h.len) (u8c_one l) (by decide) rfl (by omega) (by omega) rfl (fun v' sp' hown' => ?_)
  simp only [Nat.zero_add, List.nil_append] at hown' ⊢
  refine tl_freeze _ (h := Rem.here) (fun ρ' hle hfz => ?_)
  obtain ⟨a', c', rfl, hc, hs⟩ := hown'.sIn hfz
  repeat' (first | (refine i_op ?_; first | (refine i_qq ?_; refine qQ ?_) | refine qEf ?_) | refine tl_nil ?_ | (refine i_tc ?_; refine qTc ?_) | (refine i_te ?_; refine qTe ?_) | intro _)
  exact qE ⟨rfl, hle, a', c', hs, hc, rfl⟩
end Go.Proofs.E

