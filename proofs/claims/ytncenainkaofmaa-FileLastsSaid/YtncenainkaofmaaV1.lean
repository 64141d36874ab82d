/- The law FileLasts. Part 1 of 1. -/
import Derived.Test.YtncenainkaofmaaF6
import Derived.Test.YtncenainkaofmaaRows
namespace Go.Proofs.E
open Go Go.RowKit
set_option linter.unusedVariables false
set_option linter.unusedSimpArgs false
set_option linter.unusedSectionVars false
set_option maxRecDepth 8000
/-! ## a region that ends in a phase of its own -/
def reachB (l : List Oper) : Nat → Nat → Nat → Bool
  | 0, _, _ => false
  | f + 1, i, k => ((l[i]?).map fun o => o.after.any fun e => Region.binds .any e && (e.on == k || reachB l f e.on k)).getD false
def guardB (c : Nat) (o : Oper) : Bool := match o.guard with | none => true | some (j, _) => decide (j < c)
def cutB (l : List Oper) (c : Nat) : Bool :=
  decide (c ≤ l.length) && (List.range l.length).all fun i =>
    if i < c then ((l[i]?).map fun o => o.after.all (fun e => !Region.binds .any e || decide (e.on < i)) && guardB c o).getD false
    else (List.range c).all fun k => reachB l 12 i k
def ClosedL (l : List Oper) (m : List Bool) : Prop := ∀ (j : Nat) (o : Oper), l[j]? = some o → m[j]? = some true → ∀ e ∈ o.after, Region.binds .any e = true → m[e.on]? = some true
theorem reach_ok {l : List Oper} {m : List Bool} (hc : ClosedL l m) : ∀ (f i k : Nat) (o : Oper), l[i]? = some o → (∀ e ∈ o.after, Region.binds .any e = true → m[e.on]? = some true) → reachB l f i k = true → m[k]? = some true
  | 0, _, _, _, _, _, h => by simp [reachB] at h
  | f + 1, i, k, o, ho, he, h => by
    simp only [reachB, ho, Option.map_some, Option.getD_some, Array.any_eq_true] at h
    obtain ⟨x, hx, h⟩ := h
    simp only [Bool.and_eq_true, Bool.or_eq_true, beq_iff_eq] at h
    have h1 := he _ (Array.getElem_mem hx) h.1
    rcases h.2 with h2 | h2
    · rw [← h2]; exact h1
    · cases ho2 : l[(o.after[x]).on]? with
      | none =>
        cases f with
        | zero => simp [reachB] at h2
        | succ f => simp [reachB, ho2] at h2
      | some o2 => exact reach_ok hc f _ k o2 ho2 (hc _ o2 ho2 h1) h2
theorem wpOpIn_cut {ro : Option Nat} {P : Program} {l : List Oper} {c i : Nat} {Q Q1 : Exit → Act → World → Prop} {K K' : Act → World → Prop} {a : Act} {w : World} (hi : i < c) (hg : ∀ o, l[i]? = some o → guardB c o = true) (hk : ∀ a w, K a w → K' a w)
    (h : wpOpIn (Fw ro) 0 P (l.take c).toArray (QN Q1) i K a w) : wpOpIn (Fw ro) 0 P l.toArray (QN Q) i K' a w := by
  unfold wpOpIn at h ⊢
  simp only [List.getElem?_toArray] at h ⊢
  rw [List.getElem?_take_of_lt hi] at h
  cases ho : l[i]? with
  | none => rw [ho] at h; exact hk _ _ h
  | some o =>
    rw [ho] at h
    simp only at h ⊢
    have hgo := hg o ho
    have hy : Region.wanted o (yielded (l.take c).toArray a.tmps) = Region.wanted o (yielded l.toArray a.tmps) := by
      unfold Region.wanted
      unfold guardB at hgo
      cases hgd : o.guard with
      | none => rfl
      | some jb =>
        obtain ⟨j, b⟩ := jb
        rw [hgd] at hgo
        simp only [decide_eq_true_eq] at hgo
        simp only [yielded, List.getElem?_toArray, List.getElem?_take_of_lt hgo]
    rw [hy] at h
    by_cases hw : Region.wanted o (yielded l.toArray a.tmps) = true
    · simp only [hw, if_true] at h ⊢
      unfold Oper.wpIn at h ⊢
      refine ⟨h.1, ?_⟩
      have h2 := h.2
      generalize (o.semAt (Fw ro).round a.eval).run P w = r at *
      cases r with
      | ok n w' =>
        cases n <;> simp only [Oper.uponIn] at h2 ⊢ <;>
        first
          | exact hk _ _ h2
          | exact ⟨h2.1, CallsIn.mono h2.2 (fun e w'' he => by cases e <;> first | exact hk _ _ he | exact he.elim | exact (let ⟨_, _, q⟩ := he; q.elim))⟩
          | exact ⟨h2.1, RowsIn.mono h2.2 (fun _ _ he => hk _ _ he)⟩
          | exact ⟨h2.1, RoundIn.mono h2.2 (fun e w'' he => by cases e <;> first | exact hk _ _ he | exact he.elim | exact (let ⟨_, _, q⟩ := he; q.elim))⟩
      | halt x w' => cases x <;> simp only [Oper.uponIn] at h2 ⊢ <;> first | exact h2 | exact h2.elim
    · simp only [hw] at h ⊢
      exact ⟨h.1, hk _ _ h.2⟩
theorem any_cut {ro : Option Nat} {P : Program} {l : List Oper} {c : Nat} {Q : Exit → Act → World → Prop} (hcut : cutB l c = true) :
    ∀ (fuel : Nat) (m : List Bool) (a : Act) (w : World), m.length = c → ClosedL l m → List.count false m = fuel →
      wpAnyIn (Fw ro) 0 P .any (l.take c).toArray (QN fun e a w => wpAnyIn (Fw ro) 0 P .any l.toArray (QN Q) (l.length - c) ⟨List.replicate c true ++ List.replicate (l.length - c) false⟩ a w) fuel ⟨m⟩ a w →
      wpAnyIn (Fw ro) 0 P .any l.toArray (QN Q) (fuel + (l.length - c)) ⟨m ++ List.replicate (l.length - c) false⟩ a w := by
  simp only [cutB, Bool.and_eq_true, decide_eq_true_eq, List.all_eq_true, List.mem_range] at hcut
  obtain ⟨hcl, hall⟩ := hcut
  intro fuel
  induction fuel with
  | zero =>
    intro m a w hm _ h0 H
    have hmt : m = List.replicate c true := by
      rw [List.eq_replicate_iff]
      refine ⟨hm, fun b hb => ?_⟩
      cases b with
      | true => rfl
      | false => exact absurd hb (List.count_eq_zero.1 h0)
    rw [Nat.zero_add, hmt]
    exact H.2
  | succ fuel ih =>
    intro m a w hm hcd h0 H
    have hA : fuel + 1 + (l.length - c) = (fuel + (l.length - c)) + 1 := by omega
    rw [hA]
    have hget : ∀ j, j < c → (m ++ List.replicate (l.length - c) false)[j]? = m[j]? := fun j hj => List.getElem?_append_left (by omega)
    have hge : ∀ j, c ≤ j → (m ++ List.replicate (l.length - c) false)[j]? ≠ some true := fun j hj h => by
      rw [List.getElem?_append_right (by omega)] at h
      rw [List.getElem?_replicate] at h
      split at h <;> simp at h
    have hlt : ∀ j, (m ++ List.replicate (l.length - c) false)[j]? = some true → m[j]? = some true := fun j h => by
      by_cases hj : j < c
      · rw [hget j hj] at h; exact h
      · exact absurd h (hge j (by omega))
    have hrd : ∀ i, i ∈ Region.ready .any l.toArray ⟨m ++ List.replicate (l.length - c) false⟩ → i < c ∧ m[i]? = some false ∧ i ∈ Region.ready .any (l.take c).toArray ⟨m⟩ ∧ ∃ o, l[i]? = some o ∧ ∀ e ∈ o.after, Region.binds .any e = true → m[e.on]? = some true := fun i hi => by
      obtain ⟨h1, o, ho, he⟩ := mem_ready.1 hi
      simp only [List.getElem?_toArray] at ho
      have he' : ∀ e ∈ o.after, Region.binds .any e = true → m[e.on]? = some true := fun e h2 h3 => by
        have := he e h2 h3
        apply hlt
        simp only [Array.getD_eq_getD_getElem?, List.getElem?_toArray] at this
        cases hq : (m ++ List.replicate (l.length - c) false)[e.on]? with
        | none => rw [hq] at this; simp at this
        | some b => rw [hq] at this; simp at this; rw [this]
      have hil : i < l.length := by
        rcases Nat.lt_or_ge i l.length with h | h
        · exact h
        · rw [List.getElem?_eq_none h] at ho; cases ho
      have hic : i < c := by
        rcases Nat.lt_or_ge i c with h | h
        · exact h
        · exfalso
          have hr := hall i hil
          rw [if_neg (by omega)] at hr
          simp only [List.all_eq_true, List.mem_range] at hr
          have hno : false ∉ m := fun hf => by
            obtain ⟨k, hk, hkf⟩ := List.getElem_of_mem hf
            have := reach_ok hcd 12 i k o ho he' (hr k (by omega))
            rw [List.getElem?_eq_getElem hk, hkf] at this
            cases this
          have := List.count_eq_zero.2 hno
          omega
      have hmi : m[i]? = some false := by
        simp only [Array.getD_eq_getD_getElem?, List.getElem?_toArray, hget i hic] at h1
        rw [List.getElem?_eq_getElem (show i < m.length by omega)] at h1 ⊢
        simpa using h1
      refine ⟨hic, hmi, mem_ready.2 ⟨by simp [Array.getD_eq_getD_getElem?, hmi], o, by simp [List.getElem?_take_of_lt hic, ho], fun e h2 h3 => by simp [Array.getD_eq_getD_getElem?, he' e h2 h3]⟩, o, ho, he'⟩
    refine ⟨fun hnil => ?_, fun i hi => ?_⟩
    · exfalso
      have hmem : false ∈ m := by
        rcases Classical.em (false ∈ m) with h | h
        · exact h
        · have := List.count_eq_zero.2 h; omega
      -- the lowest that is not listed
      have hex : ∃ k : Nat, m[k]? = some false ∧ ∀ j : Nat, j < k → m[j]? = some true := by
        have key : ∀ (m : List Bool), false ∈ m → ∃ k : Nat, m[k]? = some false ∧ ∀ j : Nat, j < k → m[j]? = some true := by
          intro m
          induction m with
          | nil => intro h; cases h
          | cons b r ih2 =>
            intro h
            cases b with
            | false => exact ⟨0, rfl, fun j hj => by omega⟩
            | true =>
              obtain ⟨k, h1, h2⟩ := ih2 (by simpa using h)
              refine ⟨k + 1, by simpa using h1, fun j hj => ?_⟩
              cases j with
              | zero => rfl
              | succ j => simpa using h2 j (by omega)
        exact key m hmem
      obtain ⟨k, hk, hlow⟩ := hex
      have hkc : k < c := by
        rcases Nat.lt_or_ge k m.length with h | h
        · omega
        · rw [List.getElem?_eq_none h] at hk; cases hk
      have hr := hall k (by omega)
      rw [if_pos hkc] at hr
      have hko : l[k]? = some l[k] := List.getElem?_eq_getElem (by omega)
      rw [hko] at hr
      simp only [Option.map_some, Option.getD_some, Bool.and_eq_true, Array.all_eq_true_iff_forall_mem, Bool.or_eq_true, Bool.not_eq_true', decide_eq_true_eq] at hr
      have : k ∈ Region.ready .any l.toArray ⟨m ++ List.replicate (l.length - c) false⟩ := by
        refine mem_ready.2 ⟨by simp [Array.getD_eq_getD_getElem?, hget k hkc, hk], l[k], by simp [hko], fun e h2 h3 => ?_⟩
        have hlt2 : e.on < k := by
          rcases hr.1 e h2 with h | h
          · rw [h] at h3; cases h3
          · exact h
        simp [Array.getD_eq_getD_getElem?, hget e.on (by omega), hlow e.on hlt2]
      rw [hnil] at this
      cases this
    · obtain ⟨hic, hmi, hi1, o, ho, he⟩ := hrd i hi
      have hr := hall i (by omega)
      rw [if_pos hic, ho] at hr
      simp only [Option.map_some, Option.getD_some, Bool.and_eq_true] at hr
      refine wpOpIn_cut hic (fun o' ho' => by rw [ho] at ho'; cases ho'; exact hr.2) (fun a' w' h' => ?_) (H.2 i hi1)
      have hs1 : (⟨m⟩ : Array Bool).setIfInBounds i true = ⟨m.set i true⟩ := by simp
      have hs2 : (⟨m ++ List.replicate (l.length - c) false⟩ : Array Bool).setIfInBounds i true = ⟨m.set i true ++ List.replicate (l.length - c) false⟩ := by
        simp [List.set_append_left _ _ (show i < m.length by omega)]
      rw [hs1] at h'
      rw [hs2]
      refine ih (m.set i true) a' w' (by simpa using hm) (fun j oj hoj hj e h2 h3 => ?_) ?_ h'
      · have hself : ∀ q, m[q]? = some true → (m.set i true)[q]? = some true := fun q hq => by
          rw [List.getElem?_set]
          split
          · rename_i h; subst h; rw [hmi] at hq; cases hq
          · exact hq
        by_cases hji : j = i
        · subst hji
          rw [ho] at hoj; cases hoj
          exact hself _ (he e h2 h3)
        · rw [List.getElem?_set_ne (fun h => hji h.symm)] at hj
          exact hself _ (hcd j oj hoj hj e h2 h3)
      · have hlt3 : i < m.length := by omega
        have hmi2 : m[i] = false := by rw [List.getElem?_eq_getElem hlt3] at hmi; simpa using hmi
        rw [List.count_set (h := hlt3)]
        simp [hmi2]
        omega
section
variable {x : Cx} {Q : Exit → Act → World → Prop} {E : Env} {ρ : Hp} {L : SH} {l : List Oper}
/-- behind the first phase -/
def QPh (x : Cx) (l : List Oper) (c : Nat) (Q : Exit → Act → World → Prop) : Exit → Act → World → Prop :=
  fun _ a w => wpAnyIn (Fw x.ro) 0 x.P .any l.toArray (QN Q) (l.length - c) ⟨List.replicate c true ++ List.replicate (l.length - c) false⟩ a w
theorem tc_phase {id : Nat} (c : Nat) (S : World → Prop) [hm : Mixed x.P] (hcut : cutB l c = true) (hS : ∀ w, Sat x.u ρ L w → S w) (h : TR x (l.take c) S c (List.replicate c false) (QPh x l c Q) E ρ L) : TC x (.region id l.toArray true) Q E ρ L := fun a w ha hw => by
  refine wpIn_mono (Q := QN Q) ?_ (fun e a w q => by cases e <;> first | exact q | exact q.elim)
  refine wpIn_region_any hm.out ?_
  have h1 := h a _ ha hw.drew (hS _ hw.drew)
  have h2 := wpAnyIn_of_G _ _ _ _ h1
  have hcl : c ≤ l.length := by
    simp only [cutB, Bool.and_eq_true, decide_eq_true_eq] at hcut
    exact hcut.1
  have h3 := any_cut (Q := Q) hcut c (List.replicate c false) a _ (by simp) (fun j o _ hj => by
    rw [List.getElem?_replicate] at hj
    split at hj <;> simp at hj) (by simp) h2
  have e1 : c + (l.length - c) = l.length := by omega
  rw [e1, List.replicate_append_replicate, e1] at h3
  simpa using h3
/-- the last phase -/
theorem te_phase {c fuel : Nat} {m : List Bool} (S : World → Prop) (hf : l.length - c = fuel) (hm : List.replicate c true ++ List.replicate fuel false = m) (hS : ∀ w, Sat x.u ρ L w → S w) (h : TR x l S fuel m Q E ρ L) : TE x .normal (QPh x l c Q) E ρ L := fun a w ha hw => by
  subst hf
  subst hm
  exact wpAnyIn_of_G _ _ _ _ (h a w ha hw (hS w hw))
end
end Go.Proofs.E

namespace Go.Proofs.E
open Go
set_option linter.unusedVariables false
set_option linter.unusedSimpArgs false
set_option linter.unusedSectionVars false
set_option maxRecDepth 4000
set_option maxHeartbeats 1000000
attribute [local irreducible] Yl TL TC TE Spec YSpec R1 Hp.le EnvLe TS TR YS Stays
def shortR (r : Row) : Row := ⟨r.t, r.id, r.val, r.note.take 9⟩
def fewC (c : Cont) : Cont := ⟨c.kind, (c.rows.take 5).map shortR, c.kids.take 5⟩
theorem take_min9 (l : List UInt8) : l.take (min (l.length : Int) 9).toNat = l.take 9 := by
  by_cases h : l.length ≤ 9
  · rw [show (min (l.length : Int) 9).toNat = l.length by omega, List.take_of_length_le (Nat.le_refl _), List.take_of_length_le h]
  · rw [show (min (l.length : Int) 9).toNat = 9 by omega]
structure CInW (ρ : Hp) (v : CV) (rows : List Row) (kids : List Kid) : Prop where
  r : AIn ρ 4 rowV v.ra v.rn rows
  k : AIn ρ 3 kidV v.ka v.kn kids
  rb : v.rn ≤ 9223372036854775807
  kb : v.kn ≤ 9223372036854775807
  rc : v.rn ≤ v.rc
  kc : v.kn ≤ v.kc
theorem CInW.mono {ρ ρ' v rows kids} (h : CInW ρ v rows kids) (hle : ρ.le ρ') : CInW ρ' v rows kids := ⟨h.r.mono hle, h.k.mono hle, h.rb, h.kb, h.rc, h.kc⟩
theorem flatK_one (l : List Kid) : ((l.map kidV).flatten).all (·.oneCell') = true := by
  induction l with
  | nil => rfl
  | cons k r ih => simp only [List.map_cons, List.flatten_cons, List.all_append, ih, Bool.and_true]; rfl
theorem flatR_one (l : List Row) : ((l.map rowV).flatten).all (·.oneCell') = true := by
  induction l with
  | nil => rfl
  | cons k r ih => simp only [List.map_cons, List.flatten_cons, List.all_append, ih, Bool.and_true]; rfl
theorem take_five {α : Type} (l : List α) (n m : Nat) (h : l.length = n) (hm : m = min n 5) : l.take m = l.take 5 := by
  by_cases h5 : n ≤ 5
  · rw [show m = n by omega, List.take_of_length_le (by omega), List.take_of_length_le (by omega)]
  · rw [show m = 5 by omega]
theorem row_get {sp : List Value} : ∀ (acc : List Row) (k : Nat) (r : Row), acc[k]? = some r → ((acc.map rowV).flatten ++ sp)[0 + k * 4 + 3]? = some (strV r.note)
  | [], k, r, h => by cases h
  | a :: t, 0, r, h => by cases h; rfl
  | a :: t, k + 1, r, h => by
    have ih := row_get (sp := sp) t k r (by simpa using h)
    rw [show 0 + (k + 1) * 4 + 3 = (0 + k * 4 + 3) + 4 by omega]
    simpa only [List.map_cons, List.flatten_cons, rowV, List.cons_append, List.nil_append, List.getElem?_cons_succ] using ih
theorem row_set {sp : List Value} (s : List UInt8) : ∀ (acc : List Row) (k : Nat) (r : Row), acc[k]? = some r → ((acc.map rowV).flatten ++ sp).set (0 + k * 4 + 3) (strV s) = ((acc.set k ⟨r.t, r.id, r.val, s⟩).map rowV).flatten ++ sp
  | [], k, r, h => by cases h
  | a :: t, 0, r, h => by cases h; rfl
  | a :: t, k + 1, r, h => by
    have ih := row_set (sp := sp) s t k r (by simpa using h)
    rw [show 0 + (k + 1) * 4 + 3 = (0 + k * 4 + 3) + 4 by omega]
    simp only [List.map_cons, List.flatten_cons, rowV, List.cons_append, List.nil_append, List.set_cons_succ]
    rw [ih]
theorem row_setL {sp : List Value} (s : List UInt8) {acc : List Row} {k : Nat} {r : Row} (h : acc[k]? = some r) : SetL ((acc.map rowV).flatten ++ sp) (0 + k * 4 + 3) (strV s) (((acc.set k ⟨r.t, r.id, r.val, s⟩).map rowV).flatten ++ sp) := by
  have h1 := row_get (sp := sp) acc k r h
  have hlt : 0 + k * 4 + 3 < ((acc.map rowV).flatten ++ sp).length := by
    rcases Nat.lt_or_ge (0 + k * 4 + 3) ((acc.map rowV).flatten ++ sp).length with hh | hh
    · exact hh
    · rw [List.getElem?_eq_none hh] at h1; cases h1
  refine ⟨hlt, ?_⟩
  rw [← row_set s acc k r h, List.set_eq_take_append_cons_drop, if_pos hlt]
  simp [stc]
theorem set_step (RS : List Row) (k : Nat) (h : k < RS.length) : ((RS.take k).map shortR ++ RS.drop k).set k (shortR RS[k]) = (RS.take (k + 1)).map shortR ++ RS.drop (k + 1) := by
  rw [List.set_append_right _ _ (by simp; omega), List.drop_eq_getElem_cons h, List.take_succ_eq_append_getElem h]
  rw [show k - ((RS.take k).map shortR).length = 0 by simp; omega]
  simp only [List.set_cons_zero, List.map_append, List.map_cons, List.map_nil, List.append_assoc, List.cons_append, List.nil_append]
theorem get_step (RS : List Row) (k : Nat) (h : k < RS.length) : ((RS.take k).map shortR ++ RS.drop k)[k]? = some RS[k] := by
  rw [List.getElem?_append_right (by simp; omega), List.drop_eq_getElem_cons h]
  simp [show k - min k RS.length = 0 by omega]
theorem few14_spec (ρ : Hp) (w : CV) (c : Cont) (h : CInW ρ w c.rows c.kids) :
    Spec Try.prog 35 [.agg ⟨contV c.kind w⟩] ρ [] (fun v ρ' L' => ρ.le ρ' ∧ ∃ w', v = .agg ⟨contV c.kind w'⟩ ∧ CIn ρ' w' (fewC c).rows (fewC c).kids ∧ L' = []) := by
  obtain ⟨kind, rows, kids⟩ := c
  obtain ⟨ra, rn, rc, ka, kn, kc⟩ := w
  obtain ⟨hr, hk, hrb, hkb, hrc, hkc⟩ := h
  dsimp only at hr hk hrb hkb hrc hkc
  have hrl := hr.len
  have hkl := hk.len
  dsimp only [fewC, contV]
  obtain ⟨m, hm⟩ : ∃ m, m = min kn 5 := ⟨_, rfl⟩
  obtain ⟨q, hq⟩ : ∃ q, q = min rn 5 := ⟨_, rfl⟩
  have hmt : (min (kn : Int) 5).toNat = m := by omega
  have hqt : (min (rn : Int) 5).toNat = q := by omega
  have hk5 := hk.take (hi' := m) (by omega)
  have hr5 := hr.take (hi' := q) (by omega)
  rw [take_five _ _ _ hkl hm] at hk5
  rw [take_five _ _ _ hrl hq] at hr5
  have hm5 : m ≤ 5 := by omega
  have hq5 : q ≤ 5 := by omega
  generalize kids.take 5 = KS at *
  generalize rows.take 5 = RS at *
  refine spec_enter Try.func35 rfl rfl rfl fun u R => ?_
  simp only [argsE, List.cons_append, List.nil_append]
  repeat' (first | (refine i_op ?_; first | (refine i_qq ?_; refine qQ ?_) | refine qEf ?_) | refine tl_nil ?_ | (refine i_tc ?_; refine qTc ?_) | (refine i_te ?_; refine qTe ?_) | intro _)
  rename_i b1 b2
  refine tc_cut_k R [] (fun (ζ : (Option Addr) × (Nat) × (List Value) × (Option Addr) × (Nat) × (List Value)) => [(1, .pointer (some ⟨b1, 0, none⟩)), (2, .pointer (some ⟨b2, 0, none⟩))]) (fun (ζ : (Option Addr) × (Nat) × (List Value) × (Option Addr) × (Nat) × (List Value)) => ρ) (fun (ζ : (Option Addr) × (Nat) × (List Value) × (Option Addr) × (Nat) × (List Value)) => [ownC (.slice ζ.1 q ζ.2.1) (RS.map rowV).flatten ζ.2.2.1 129, ownC (.slice ζ.2.2.2.1 m ζ.2.2.2.2.1) (KS.map kidV).flatten ζ.2.2.2.2.2 174, [(b1, .cells ⟨[.int .i64 kind, .slice ζ.1 q ζ.2.1, .slice ζ.2.2.2.1 m ζ.2.2.2.2.1]⟩ 76 (0, 0))], [(b2, .cells ⟨[.int .i64 0, .slice none 0 0, .slice none 0 0]⟩ 76 (0, 0))]]) (fun (ζ : (Option Addr) × (Nat) × (List Value) × (Option Addr) × (Nat) × (List Value)) => OwnS (.slice ζ.1 q ζ.2.1) q (RS.map rowV).flatten ζ.2.2.1 4 ∧ OwnS (.slice ζ.2.2.2.1 m ζ.2.2.2.2.1) m (KS.map kidV).flatten ζ.2.2.2.2.2 3) ev_le ?_ ?_
  · refine tc_phase 19 (Stays _ _ ([[(b1, .cells ⟨[.int .i64 kind, .slice ra rn rc, .slice ka kn kc]⟩ 76 (0, 0))]])) (by decide +kernel) (stays_of (hT := tk) (Hp.le_refl _)) ?_
    simp only [List.take_succ_cons, List.take_zero]
    all_goals refine rFa 1 ?_
    all_goals refine rLd 2 ?_
    all_goals refine rFa 3 ?_
    all_goals refine rLd 4 ?_
    all_goals refine rBi 5 ?_
    all_goals refine rBi 6 ?_
    all_goals refine rSl 7 ?_
    all_goals refine rFa 10 ?_
    all_goals refine rLd 11 ?_
    all_goals refine rFa 12 ?_
    all_goals refine rLd 13 ?_
    all_goals refine rBi 14 ?_
    all_goals refine rBi 15 ?_
    all_goals refine rSl 16 ?_
    all_goals (refine rStep2 (i := 0) (j := 9) ?_ ?_ <;> ((try refine qWant ?_); (first | (refine qEf ?_; try intro _)) <;> ((try simp only [List.cons_append, List.nil_append, List.append_eq]); refine tl_nil ?_; refine rNext ?_)))
    all_goals (first | (refine rStep2 (i := 8) (j := 9) ?_ ?_ <;> ((try refine qWant ?_); (first | (simp only [hqt]; refine tl_app (n := 0) (xs := []) (sp := []) (ys := (RS.map rowV).flatten) (m := q) (sz := 4) rfl rfl (OwnS.zero _ 4) (hR := by first | exact rem_here' | exact rem_there' rem_here' | exact rem_there' (rem_there' rem_here')) (AIn.srcV hr5) (by rw [flat_len rowV 4 _ (fun x _ => rfl), hr5.len]) (flatR_one _) (by decide) rfl (by omega) (by omega) rfl (fun v1 sp1 hown1 => ?_); simp only [Nat.zero_add, List.nil_append] at hown1 ⊢; obtain ⟨a1, c1, rfl, hlen1⟩ := hown1.len) | (simp only [hmt]; refine tl_app (n := 0) (xs := []) (sp := []) (ys := (KS.map kidV).flatten) (m := m) (sz := 3) rfl rfl (OwnS.zero _ 3) (hR := by first | exact rem_here' | exact rem_there' rem_here' | exact rem_there' (rem_there' rem_here')) (AIn.srcV hk5) (by rw [flat_len kidV 3 _ (fun x _ => rfl), hk5.len]) (flatK_one _) (by decide) rfl (by omega) (by omega) rfl (fun v2 sp2 hown2 => ?_); simp only [Nat.zero_add, List.nil_append] at hown2 ⊢; obtain ⟨a2, c2, rfl, hlen2⟩ := hown2.len) | (refine qEf ?_; try intro _)) <;> ((try simp only [List.cons_append, List.nil_append, List.append_eq]); refine tl_nil ?_; refine rNext ?_))) | (refine rStep (i := 0) ?_; ((try refine qWant ?_); (first | (refine qEf ?_; try intro _)) <;> ((try simp only [List.cons_append, List.nil_append, List.append_eq]); refine tl_nil ?_; refine rNext ?_))))
    all_goals (first | refine rFa 18 ?_ | (refine rStep (i := 8) ?_; ((try refine qWant ?_); (first | (simp only [hqt]; refine tl_app (n := 0) (xs := []) (sp := []) (ys := (RS.map rowV).flatten) (m := q) (sz := 4) rfl rfl (OwnS.zero _ 4) (hR := by first | exact rem_here' | exact rem_there' rem_here' | exact rem_there' (rem_there' rem_here')) (AIn.srcV hr5) (by rw [flat_len rowV 4 _ (fun x _ => rfl), hr5.len]) (flatR_one _) (by decide) rfl (by omega) (by omega) rfl (fun v1 sp1 hown1 => ?_); simp only [Nat.zero_add, List.nil_append] at hown1 ⊢; obtain ⟨a1, c1, rfl, hlen1⟩ := hown1.len) | (simp only [hmt]; refine tl_app (n := 0) (xs := []) (sp := []) (ys := (KS.map kidV).flatten) (m := m) (sz := 3) rfl rfl (OwnS.zero _ 3) (hR := by first | exact rem_here' | exact rem_there' rem_here' | exact rem_there' (rem_there' rem_here')) (AIn.srcV hk5) (by rw [flat_len kidV 3 _ (fun x _ => rfl), hk5.len]) (flatK_one _) (by decide) rfl (by omega) (by omega) rfl (fun v2 sp2 hown2 => ?_); simp only [Nat.zero_add, List.nil_append] at hown2 ⊢; obtain ⟨a2, c2, rfl, hlen2⟩ := hown2.len) | (refine qEf ?_; try intro _)) <;> ((try simp only [List.cons_append, List.nil_append, List.append_eq]); refine tl_nil ?_; refine rNext ?_))))
    all_goals (first | refine rFa 18 ?_ | (refine rStep (i := 9) ?_; ((try refine qWant ?_); (first | (refine qEf ?_; try intro _)) <;> ((try simp only [List.cons_append, List.nil_append, List.append_eq]); refine tl_nil ?_; refine rNext ?_))))
    all_goals (refine rStep (i := 17) ?_; ((try refine qWant ?_); (first | (simp only [hqt]; refine tl_app (n := 0) (xs := []) (sp := []) (ys := (RS.map rowV).flatten) (m := q) (sz := 4) rfl rfl (OwnS.zero _ 4) (hR := by first | exact rem_here' | exact rem_there' rem_here' | exact rem_there' (rem_there' rem_here')) (AIn.srcV hr5) (by rw [flat_len rowV 4 _ (fun x _ => rfl), hr5.len]) (flatR_one _) (by decide) rfl (by omega) (by omega) rfl (fun v1 sp1 hown1 => ?_); simp only [Nat.zero_add, List.nil_append] at hown1 ⊢; obtain ⟨a1, c1, rfl, hlen1⟩ := hown1.len) | (simp only [hmt]; refine tl_app (n := 0) (xs := []) (sp := []) (ys := (KS.map kidV).flatten) (m := m) (sz := 3) rfl rfl (OwnS.zero _ 3) (hR := by first | exact rem_here' | exact rem_there' rem_here' | exact rem_there' (rem_there' rem_here')) (AIn.srcV hk5) (by rw [flat_len kidV 3 _ (fun x _ => rfl), hk5.len]) (flatK_one _) (by decide) rfl (by omega) (by omega) rfl (fun v2 sp2 hown2 => ?_); simp only [Nat.zero_add, List.nil_append] at hown2 ⊢; obtain ⟨a2, c2, rfl, hlen2⟩ := hown2.len) | (refine qEf ?_; try intro _)) <;> ((try simp only [List.cons_append, List.nil_append, List.append_eq]); refine tl_nil ?_; refine rNext ?_)))
    all_goals refine rDone ?_
    all_goals refine te_phase (fuel := 3) (m := [true, true, true, true, true, true, true, true, true, true, true, true, true, true, true, true, true, true, true, false, false, false]) (Stays _ _ ([])) rfl rfl (stays_of (hT := tk) (Hp.le_refl _)) ?_
    all_goals (refine rStep (i := 19) ?_; ((try refine qWant ?_); (first | (refine qEf ?_; try intro _)) <;> ((try simp only [List.cons_append, List.nil_append, List.append_eq]); refine tl_nil ?_; refine rNext ?_)))
    all_goals refine rFa 20 ?_
    all_goals (refine rStep (i := 21) ?_; ((try refine qWant ?_); (first | (refine qEf ?_; try intro _)) <;> ((try simp only [List.cons_append, List.nil_append, List.append_eq]); refine tl_nil ?_; refine rNext ?_)))
    all_goals refine rDone ?_
    all_goals refine te_cut_g ((a1, c1, sp1, a2, c2, sp2)) (⟨hown1, hown2⟩) ev_le ev_le rfl tk inferInstance
  · rintro ⟨a1, c1, sp1, a2, c2, sp2⟩ ⟨hown1, hown2⟩
    simp only [List.cons_append, List.nil_append] at hown1 hown2 ⊢
    have hRl := hr5.len
    repeat' (first | (refine i_op ?_; first | (refine i_qq ?_; refine qQ ?_) | refine qEf ?_) | refine tl_nil ?_ | (refine i_tc ?_; refine qTc ?_) | (refine i_te ?_; refine qTe ?_) | intro _)
    refine tc_loop_g [(1, _), (2, _), (26, _)] (fun (ζ : (Nat) × (List Row)) => [(27, .int .i64 ζ.1)]) (fun (ζ : (Nat) × (List Row)) => ρ) (fun (ζ : (Nat) × (List Row)) => [ownC (.slice a1 q c1) (ζ.2.map rowV).flatten sp1 129, [(b1, .cells ⟨[.int .i64 kind, .slice a1 q c1, .slice a2 m c2]⟩ 76 (0, 0))]]) (fun (ζ : (Nat) × (List Row)) => ζ.1 ≤ q ∧ ζ.2 = (RS.take ζ.1).map shortR ++ RS.drop ζ.1) (fun (ζ : (Nat) × (List Row)) => q - ζ.1) ((0, RS)) (⟨Nat.zero_le _, by simp⟩) ev_le ev_le rfl tk ?_
    rintro ⟨k, acc⟩ hI
    try simp only [List.cons_append, List.nil_append, List.append_assoc, List.append_eq] at hI ⊢
    try dsimp only at hI ⊢
    obtain ⟨hk0, hacc⟩ := hI
    by_cases hlt : k < q
    · have hal : acc.length = q := by rw [hacc]; simp; omega
      obtain ⟨pb, pc, e1⟩ := hown1.pos (by omega)
      cases e1
      have hkR : k < RS.length := by rw [hRl]; exact hlt
      have hkv := get_step RS k hkR
      have hset := set_step RS k hkR
      rw [← hacc] at hkv
      rw [← hacc] at hset
      generalize RS[k]'hkR = r at *
      have hld := row_get (sp := sp1) acc k r hkv
      haveI hst := row_setL (sp := sp1) (r.note.take (min (r.note.length : Int) 9).toNat) hkv
      have e9 := take_min9 r.note
      repeat' (first | (refine i_op ?_; first | (refine i_qq ?_; refine qQ ?_) | refine qEf ?_) | refine tl_nil ?_ | (refine i_tc ?_; refine qTc ?_) | (refine i_te ?_; refine qTe ?_) | intro _)
      rw [show ownC (.slice (some ⟨pb, 0, none⟩) q c1) ((acc.map rowV).flatten) sp1 129 = [(pb, .cells ⟨(acc.map rowV).flatten ++ sp1⟩ 129 (0, 0))] from rfl]
      refine tc_phase 20 (Stays _ _ ([[(pb, .cells ⟨(acc.map rowV).flatten ++ sp1⟩ 129 (0, 0))], [(b1, .cells ⟨[.int .i64 kind, .slice (some ⟨pb, 0, none⟩) q c1, .slice a2 m c2]⟩ 76 (0, 0))]])) (by decide +kernel) (stays_of (hT := tk) (Hp.le_refl _)) ?_
      simp only [List.take_succ_cons, List.take_zero]
      all_goals refine rFa 0 ?_
      all_goals refine rLd 1 ?_
      all_goals refine rMv 2 ?_
      all_goals refine rFa 3 ?_
      all_goals refine rLd 4 ?_
      all_goals refine rMv 5 ?_
      all_goals refine rIa 6 ?_
      all_goals refine rFa 7 ?_
      all_goals refine rLd 8 ?_
      all_goals refine rFa 9 ?_
      all_goals refine rLd 10 ?_
      all_goals refine rMv 11 ?_
      all_goals refine rIa 12 ?_
      all_goals refine rFa 13 ?_
      all_goals refine rLd 14 ?_
      all_goals refine rBi 15 ?_
      all_goals refine rBi 16 ?_
      all_goals refine rSl 17 ?_
      all_goals refine rIa 18 ?_
      all_goals refine rFa 19 ?_
      all_goals refine rDone ?_
      all_goals refine te_phase (fuel := 1) (m := [true, true, true, true, true, true, true, true, true, true, true, true, true, true, true, true, true, true, true, true, false]) (Stays _ _ ([])) rfl rfl (stays_of (hT := tk) (Hp.le_refl _)) ?_
      all_goals (refine rStep (i := 20) ?_; ((try refine qWant ?_); (first | (refine qEf ?_; try intro _)) <;> ((try simp only [List.cons_append, List.nil_append, List.append_eq]); refine tl_nil ?_; refine rNext ?_)))
      all_goals refine rDone ?_
      all_goals rw [e9]
      all_goals (repeat' (first | (refine i_op ?_; first | (refine i_qq ?_; refine qQ ?_) | refine qEf ?_) | refine tl_nil ?_ | (refine i_tc ?_; refine qTc ?_) | (refine i_te ?_; refine qTe ?_) | intro _))
      have hsr : (⟨r.t, r.id, r.val, r.note.take 9⟩ : Row) = shortR r := rfl
      rw [hsr]
      rw [← show ownC (.slice (some ⟨pb, 0, none⟩) q c1) (((acc.set k (shortR r)).map rowV).flatten) sp1 129 = [(pb, .cells ⟨((acc.set k (shortR r)).map rowV).flatten ++ sp1⟩ 129 (0, 0))] from rfl]
      refine te_round_g (k + 1, acc.set k (shortR r)) (⟨hlt, hset⟩) ev_le ev_le rfl tk inferInstance (by first | omega | (dsimp only; omega))
    · have hkq : k = q := by omega
      have hfin : acc = RS.map shortR := by rw [hacc, List.take_of_length_le (by omega), List.drop_eq_nil_of_le (by omega), List.append_nil]
      have hal : acc.length = q := by rw [hfin]; simp; omega
      have hown1' : OwnS (.slice a1 q c1) q ((acc.map rowV).flatten) sp1 4 := by
        have hL : ((acc.map rowV).flatten).length = ((RS.map rowV).flatten).length := by rw [flat_len rowV 4 _ (fun x _ => rfl), flat_len rowV 4 _ (fun x _ => rfl), hal, hRl]
        rcases hown1.out with ⟨h1, h2, h3, h4⟩ | ⟨b, cap, h1, h2, h3, h4⟩
        · exact ⟨.inl ⟨h1, h2, List.eq_nil_of_length_eq_zero (by rw [hL, h3]; rfl), h4⟩⟩
        · exact ⟨.inr ⟨b, cap, h1, by rw [hL]; exact h2, by rw [hL]; exact h3, h4⟩⟩
      refine tc_freeze (ownC (.slice a1 q c1) ((acc.map rowV).flatten) sp1 129) (fun ρ1 hle1 hfz1 => ?_)
      obtain ⟨a3, c3, e3, hc3, hA3⟩ := hown1'.aIn hal (fun x _ => rfl) hfz1
      cases e3
      refine tc_freeze (ownC (.slice a2 m c2) ((KS.map kidV).flatten) sp2 174) (fun ρ2 hle2 hfz2 => ?_)
      obtain ⟨a4, c4, e4, hc4, hA4⟩ := hown2.aIn hk5.len (fun x _ => rfl) hfz2
      cases e4
      repeat' (first | (refine i_op ?_; first | (refine i_qq ?_; refine qQ ?_) | refine qEf ?_) | refine tl_nil ?_ | (refine i_tc ?_; refine qTc ?_) | (refine i_te ?_; refine qTe ?_) | intro _)
      exact qE (L' := []) ⟨Hp.le_trans hle1 hle2, ⟨a1, q, c1, a2, m, c2⟩, rfl, ⟨by rw [← hfin]; exact hA3.mono hle2, hA4, by dsimp only; omega, by dsimp only; omega, hc3, hc4⟩, rfl⟩
end Go.Proofs.E

namespace Go.Proofs.E
open Go Go.RowKit
set_option linter.unusedVariables false
set_option linter.unusedSimpArgs false
set_option linter.unusedSectionVars false
set_option maxRecDepth 8000
/-! ## rows, kids, contents that came in -/
theorem rs_flat {α : Type} {sz : Nat} {g : α → List Value} {C : List Value} {off : Nat} : ∀ (l : List α) (k : Nat), k ≤ l.length → (∀ i (h : i < l.length), (C.drop (off + i * sz)).take sz = g l[i]) → (C.drop off).take (k * sz) = ((l.take k).map g).flatten
  | l, 0, _, _ => by simp
  | l, k + 1, hk, h => by
    have ih := rs_flat l k (by omega) h
    rw [show l.take (k + 1) = l.take k ++ [l[k]'(by omega)] from List.take_succ_eq_append_getElem (by omega), Nat.add_mul, Nat.one_mul, List.take_add, ih, List.drop_drop, h k (by omega)]
    simp only [List.map_append, List.flatten_append, List.map_cons, List.map_nil, List.flatten_cons, List.flatten_nil, List.append_nil]
theorem aIn_of {ρ : Hp} {α : Type} {sz : Nat} {g : α → List Value} {P : α → Prop} {cs : List Value} {s : Option Addr × Nat × Nat × List α} (hg : ∀ x, (g x).length = sz) (h : RS ρ sz (fun cs x => cs = g x ∧ P x) cs s) : AIn ρ sz g s.1 s.2.1 s.2.2.2 ∧ (∀ x ∈ s.2.2.2, P x) ∧ s.2.1 ≤ s.2.2.1 ∧ s.2.1 ≤ 9223372036854775807 := by
  obtain ⟨a, n, c, ks⟩ := s
  obtain ⟨h1, h2, h3, h4, h5⟩ := h
  dsimp only at h1 h2 h3 h4 h5 ⊢
  refine ⟨⟨h4, ?_, fun x _ => hg x⟩, fun x hx => ?_, h2, by omega⟩
  · by_cases h0 : n = 0
    · exact .inl h0
    · right
      obtain ⟨b, off, C, T, fr, e1, e2, e3, e4⟩ := h5 0 (by omega)
      have same : ∀ i (h : i < ks.length), off + i * sz + sz ≤ C.length ∧ (C.drop (off + i * sz)).take sz = g ks[i] := fun i hi => by
        obtain ⟨b', off', C', T', fr', f1, f2, f3, f4⟩ := h5 i hi
        rw [e1] at f1
        cases f1
        rw [e2] at f2
        cases f2
        exact ⟨f3, f4.1⟩
      refine ⟨b, off, C, T, fr, e1, e2, ?_, ?_⟩
      · have := (same (n - 1) (by omega)).1
        have e : n * sz = (n - 1) * sz + sz := by
          obtain ⟨m, rfl⟩ : ∃ m, n = m + 1 := ⟨n - 1, by omega⟩
          rw [Nat.add_mul]; simp
        omega
      · have := rs_flat (sz := sz) (g := g) ks n (by omega) (fun i hi => (same i hi).2)
        rw [this, List.take_of_length_le (by omega)]
  · obtain ⟨i, hi, rfl⟩ := List.mem_iff_getElem.1 hx
    obtain ⟨_, _, _, _, _, _, _, _, f⟩ := h5 i hi
    exact f.2
section
variable {H : Type} {enc : TypeId × Value → H} {w : World}
theorem opn_str : Opn enc Try.prog w 9 (fun cs (l : List UInt8) => cs = [strV l]) := fun fuel cs x h => by
  obtain ⟨s, rfl, _, _⟩ := DataW.trod_string Try.underlying9 h
  obtain ⟨⟨l⟩⟩ := s
  exact ⟨l, rfl⟩
theorem opn_key : Opn enc Try.prog w 127 (fun cs (k : Int × Nat) => cs = keyV k.1 k.2 ∧ k.2 < 65536) := fun fuel cs x h => by
  obtain ⟨hl, hf⟩ := opn_fields Try.underlying127 h
  have hl : cs.length = 2 := by rw [hl]; kernel_rfl
  obtain ⟨c0, c1, rfl⟩ : ∃ c0 c1, cs = [c0, c1] := by
    match cs, hl with
    | [c0, c1], _ => exact ⟨c0, c1, rfl⟩
  obtain ⟨t, h0, _⟩ := opn_field h Try.underlying127 0 0 1 rfl rfl rfl (by kernel_rfl) (opn_int Try.underlying3)
  obtain ⟨i, h1, i0, i1⟩ := opn_field h Try.underlying127 1 1 1 rfl rfl rfl (by kernel_rfl) (opn_int Try.underlying125)
  simp only [List.drop_zero, List.drop_succ_cons, List.take_succ_cons, List.take_zero, List.cons.injEq, and_true] at h0 h1
  subst h0; subst h1
  simp only [lo, hi] at i0 i1
  refine ⟨(t, i.toNat), ?_, by dsimp only; omega⟩
  have : ((i.toNat : Nat) : Int) = i := by omega
  simp only [keyV, this]
theorem opn_row : Opn enc Try.prog w 129 (fun cs (r : Row) => cs = rowV r ∧ RowFit r) := fun fuel cs x h => by
  obtain ⟨hl, hf⟩ := opn_fields Try.underlying129 h
  have hl : cs.length = 4 := by rw [hl]; kernel_rfl
  obtain ⟨c0, c1, c2, c3, rfl⟩ : ∃ c0 c1 c2 c3, cs = [c0, c1, c2, c3] := by
    match cs, hl with
    | [c0, c1, c2, c3], _ => exact ⟨c0, c1, c2, c3, rfl⟩
  obtain ⟨⟨t, i⟩, h0, hi0⟩ := opn_field h Try.underlying129 0 0 2 rfl rfl rfl (by kernel_rfl) opn_key
  obtain ⟨v, h1, v0, v1⟩ := opn_field h Try.underlying129 1 2 1 rfl rfl rfl (by kernel_rfl) (opn_int Try.underlying2)
  obtain ⟨s, h2⟩ := opn_field h Try.underlying129 2 3 1 rfl rfl rfl (by kernel_rfl) opn_str
  simp only [List.drop_zero, List.drop_succ_cons, List.take_succ_cons, List.take_zero, List.cons.injEq, and_true, keyV] at h0 h1 h2
  obtain ⟨rfl, rfl⟩ := h0
  subst h1; subst h2
  simp only [lo, hi] at v0 v1
  exact ⟨⟨t, i, v, s⟩, rfl, ⟨hi0, v0, v1⟩⟩
theorem opn_kid : Opn enc Try.prog w 174 (fun cs (k : Kid) => cs = kidV k ∧ k.id < 65536) := fun fuel cs x h => by
  obtain ⟨hl, hf⟩ := opn_fields Try.underlying174 h
  have hl : cs.length = 3 := by rw [hl]; kernel_rfl
  obtain ⟨c0, c1, c2, rfl⟩ : ∃ c0 c1 c2, cs = [c0, c1, c2] := by
    match cs, hl with
    | [c0, c1, c2], _ => exact ⟨c0, c1, c2, rfl⟩
  obtain ⟨⟨t, i⟩, h0, hi0⟩ := opn_field h Try.underlying174 0 0 2 rfl rfl rfl (by kernel_rfl) opn_key
  obtain ⟨v, h1, _⟩ := opn_field h Try.underlying174 1 2 1 rfl rfl rfl (by kernel_rfl) (opn_int Try.underlying3)
  simp only [List.drop_zero, List.drop_succ_cons, List.take_succ_cons, List.take_zero, List.cons.injEq, and_true, keyV] at h0 h1
  obtain ⟨rfl, rfl⟩ := h0
  subst h1
  exact ⟨⟨t, i, v⟩, rfl, hi0⟩
structure ContI (ρ : Hp) (x : CV × Cont) : Prop where
  c : CInW ρ x.1 x.2.rows x.2.kids
  row : ∀ r ∈ x.2.rows, RowFit r
  kid : ∀ k ∈ x.2.kids, k.id < 65536
theorem opn_cont : Opn enc Try.prog w 76 (fun cs (x : CV × Cont) => cs = contV x.2.kind x.1 ∧ ContI (hpOf w) x) := fun fuel cs x h => by
  obtain ⟨hl, hf⟩ := opn_fields Try.underlying76 h
  have hl : cs.length = 3 := by rw [hl]; kernel_rfl
  obtain ⟨c0, c1, c2, rfl⟩ : ∃ c0 c1 c2, cs = [c0, c1, c2] := by
    match cs, hl with
    | [c0, c1, c2], _ => exact ⟨c0, c1, c2, rfl⟩
  obtain ⟨k, h0, _⟩ := opn_field h Try.underlying76 0 0 1 rfl rfl rfl (by kernel_rfl) (opn_int Try.underlying3)
  obtain ⟨⟨ra, rn, rc, rows⟩, h1⟩ := opn_field h Try.underlying76 1 1 1 rfl rfl rfl (by kernel_rfl) (opn_slice (sz := 4) Try.underlying73 (by kernel_rfl) (by decide) opn_row)
  obtain ⟨⟨ka, kn, kc, kids⟩, h2⟩ := opn_field h Try.underlying76 2 2 1 rfl rfl rfl (by kernel_rfl) (opn_slice (sz := 3) Try.underlying74 (by kernel_rfl) (by decide) opn_kid)
  obtain ⟨g1, g2, g3, g4⟩ := aIn_of rowV_len h1
  obtain ⟨k1, k2, k3, k4⟩ := aIn_of kidV_len h2
  replace h1 := h1.cells
  replace h2 := h2.cells
  simp only [List.drop_zero, List.drop_succ_cons, List.take_succ_cons, List.take_zero, List.cons.injEq, and_true] at h0 h1 h2
  subst h0; subst h1; subst h2
  exact ⟨(⟨ra, rn, rc, ka, kn, kc⟩, ⟨k, rows, kids⟩), rfl, ⟨⟨g1, k1, g4, k4, g3, k3⟩, g2, k2⟩⟩
theorem opn_boolK : Opn enc Try.prog w 4 (fun cs (b : Bool) => cs = [bb b] ∧ True) := (opn_bool Try.underlying4).mono (fun cs b h => ⟨b, h, trivial⟩)
theorem opn_boolsK : Opn enc Try.prog w 43 (fun cs (s : Option Addr × Nat × Nat × List Bool) => cs = [.slice s.1 s.2.1 s.2.2.1] ∧ (SIn (hpOf w) bb s.1 s.2.1 s.2.2.2 ∧ s.2.1 ≤ s.2.2.1 ∧ s.2.1 ≤ 9223372036854775807)) :=
  (opn_slice (sz := 1) Try.underlying43 (by kernel_rfl) (by decide) opn_boolK).mono (fun cs s h => by
    obtain ⟨h1, _, h3, h4⟩ := aIn_ofK (g := fun b : Bool => [bb b]) (P := fun _ => True) (fun _ => rfl) h
    exact ⟨s, h.cells, sIn_of1 h1, h3, h4⟩)
structure DeedV where
  page : Int
  arm : Int
  fail : Int
  lsn : Nat
  w : CV
  c : Cont
  ka : Option Addr
  kn : Nat
  kp : Nat
  ks : List Bool
abbrev deedC (e : DeedV) : List Value := [.int .i64 e.page, .int .i64 e.arm, .int .i64 e.fail, .int .u64 e.lsn, .int .i64 e.c.kind, .slice e.w.ra e.w.rn e.w.rc, .slice e.w.ka e.w.kn e.w.kc, .slice e.ka e.kn e.kp]
structure DeedIn (ρ : Hp) (e : DeedV) : Prop where
  page : -9223372036854775808 ≤ e.page ∧ e.page ≤ 9223372036854775807
  arm : -9223372036854775808 ≤ e.arm ∧ e.arm ≤ 9223372036854775807
  fail : -9223372036854775808 ≤ e.fail ∧ e.fail ≤ 9223372036854775807
  lsn : e.lsn < M64
  c : ContI ρ (e.w, e.c)
  ks : SIn ρ bb e.ka e.kn e.ks
  kc : e.kn ≤ e.kp
  kb : e.kn ≤ 9223372036854775807
theorem opn_deed : Opn enc Try.prog w 87 (fun cs (e : DeedV) => cs = deedC e ∧ DeedIn (hpOf w) e) := fun fuel cs x h => by
  obtain ⟨hl, hf⟩ := opn_fields Try.underlying87 h
  have hl : cs.length = 8 := by rw [hl]; kernel_rfl
  obtain ⟨c0, c1, c2, c3, c4, c5, c6, c7, rfl⟩ : ∃ c0 c1 c2 c3 c4 c5 c6 c7, cs = [c0, c1, c2, c3, c4, c5, c6, c7] := by
    match cs, hl with
    | [c0, c1, c2, c3, c4, c5, c6, c7], _ => exact ⟨c0, c1, c2, c3, c4, c5, c6, c7, rfl⟩
  obtain ⟨p, h0, p0, p1⟩ := opn_field h Try.underlying87 0 0 1 rfl rfl rfl (by kernel_rfl) (opn_int Try.underlying3)
  obtain ⟨a, h1, a0, a1⟩ := opn_field h Try.underlying87 1 1 1 rfl rfl rfl (by kernel_rfl) (opn_int Try.underlying3)
  obtain ⟨f, h2, f0, f1⟩ := opn_field h Try.underlying87 2 2 1 rfl rfl rfl (by kernel_rfl) (opn_int Try.underlying3)
  obtain ⟨n, h3, n0, n1⟩ := opn_field h Try.underlying87 3 3 1 rfl rfl rfl (by kernel_rfl) (opn_int Try.underlying29)
  obtain ⟨⟨cw, cc⟩, h4, hcI⟩ := opn_field h Try.underlying87 4 4 3 rfl rfl rfl (by kernel_rfl) opn_cont
  obtain ⟨⟨ka, kn, kp, ks⟩, h7, s0, s1, s2⟩ := opn_field h Try.underlying87 5 7 1 rfl rfl rfl (by kernel_rfl) opn_boolsK
  simp only [List.drop_zero, List.drop_succ_cons, List.take_succ_cons, List.take_zero, List.cons.injEq, and_true, contV] at h0 h1 h2 h3 h4 h7
  obtain ⟨h4, h5, h6⟩ := h4
  subst h0; subst h1; subst h2; subst h3; subst h4; subst h5; subst h6; subst h7
  simp only [lo, hi] at p0 p1 a0 a1 f0 f1 n0 n1
  have hn : ((n.toNat : Nat) : Int) = n := by omega
  refine ⟨⟨p, a, f, n.toNat, cw, cc, ka, kn, kp, ks⟩, ?_, ⟨⟨p0, p1⟩, ⟨a0, a1⟩, ⟨f0, f1⟩, by dsimp only; unfold M64; omega, hcI, s0, s1, s2⟩⟩
  simp only [deedC, hn]
end
end Go.Proofs.E

namespace Go.Proofs.E
open Go
set_option linter.unusedVariables false
set_option linter.unusedSimpArgs false
set_option linter.unusedSectionVars false
set_option maxRecDepth 4000
set_option maxHeartbeats 1000000
attribute [local irreducible] Yl TL TC TE Spec YSpec R1 Hp.le EnvLe TS TR YS Stays
theorem u64_nn (a : Int) : 0 ≤ IntKind.u64.wrap a := by
  have h : IntKind.u64.wrap a = a % 18446744073709551616 := rfl
  rw [h]; omega
theorem u64_mod (a m : Int) (h0 : 0 < m) (h1 : m ≤ 1000000) : 0 ≤ IntKind.i64.wrap ((IntKind.u64.wrap a).tmod m) ∧ IntKind.i64.wrap ((IntKind.u64.wrap a).tmod m) < m ∧ IntKind.i64.wrap ((IntKind.u64.wrap a).tmod m) = (IntKind.u64.wrap a).tmod m := by
  have h2 := u64_nn a
  have h3 : (IntKind.u64.wrap a).tmod m = (IntKind.u64.wrap a) % m := Int.tmod_eq_emod_of_nonneg h2
  have h4 := Int.emod_nonneg (IntKind.u64.wrap a) (show m ≠ 0 by omega)
  have h5 := Int.emod_lt_of_pos (IntKind.u64.wrap a) h0
  rw [h3, wrap_id (by simp only [lo, hi]; omega)]
  exact ⟨h4, h5, rfl⟩

/-! ## pages as the law holds them -/
structure Pg where
  w : CV
  h : Held
abbrev pgV (p : Pg) : List Value := [.int .i64 p.h.1.kind, .slice p.w.ra p.w.rn p.w.rc, .slice p.w.ka p.w.kn p.w.kc, .int .u64 (p.h.2 : Nat)]
theorem is14_spec (ρ : Hp) (p : Pg) (hp : CIn ρ p.w p.h.1.rows p.h.1.kids) (fb db num t : Nat) (hf : FIn ρ fb db 4) (hn : num < 64) (k : DK) (D : DS) (hD : DOk k D) (held : Nat → Held) (h : FO D 4 t held) (hcm : D.Calm) :
    Spec Try.prog 37 [.agg ⟨pgV p⟩, .pointer (some ⟨fb, 0, none⟩), .int .i64 num] ρ (diskK db k D) (fun v ρ' L' => v = .bool (decide (held num = p.h)) ∧ ρ.le ρ' ∧ ∃ D', DOk k D' ∧ FO D' 4 t held ∧ D'.Calm ∧ L' = diskK db k D') := by
  obtain ⟨w, c, ls⟩ := p
  dsimp only at hp
  obtain ⟨hc, hls, he⟩ : ∃ hc hls, held num = (hc, hls) := ⟨_, _, rfl⟩
  have hrd := kread14 ρ fb db num t hf hn k D hD held h hcm
  rw [he] at hrd ⊢
  dsimp only at hrd ⊢
  refine spec_enter Try.func37 rfl rfl rfl fun u R => ?_
  simp only [argsE, List.cons_append, List.nil_append, pgV]
  repeat' (first | (refine tl_is (.func 30) ?_; refine qC rfl rfl hrd ?_; rintro v4 ρ4 L4 hle4 ⟨hl4, w4, D4, rfl, hC4, hk4, g4, c4, rfl⟩; try simp only [List.cons_append, List.nil_append, List.append_assoc, List.append_eq]) | (refine i_op ?_; first | (refine i_qq ?_; refine qQ ?_) | refine qEf ?_) | refine tl_nil ?_ | (refine i_tc ?_; refine qTc ?_) | (refine i_te ?_; refine qTe ?_) | intro _)
  have hsm := same_spec _ w4 w hc c hC4 (hp.mono hl4)
  by_cases hq : hls = ls
  · subst hq
    have hbt : ((hls : Int) == (hls : Int)) = true := by simp
    have hd : decide ((hc, hls) = (c, hls)) = decide (hc = c) := by simp
    rw [hd]
    simp only [hbt]
    repeat' (first | (refine tl_is (.func 80) ?_; refine qC rfl rfl (hsm) ?_; rintro v ρ' L' hle ⟨rfl, rfl, rfl⟩ <;> (try simp only [List.cons_append, List.nil_append, List.append_eq])) | (refine i_op ?_; first | (refine i_qq ?_; refine qQ ?_) | refine qEf ?_) | refine tl_nil ?_ | (refine i_tc ?_; refine qTc ?_) | (refine i_te ?_; refine qTe ?_) | intro _)
    exact qE (L' := diskK db k D4) ⟨rfl, hl4, D4, hk4, g4, c4, rfl⟩
  · have hd : decide ((hc, hls) = (c, ls)) = false := by simp [hq]
    rw [hd]
    have hq2 : ¬ (hls : Int) = (ls : Int) := by omega
    have hbt : ((hls : Int) == (ls : Int)) = false := by rw [beq_eq_false_iff_ne]; exact hq2
    simp only [hbt]
    repeat' (first | (refine i_op ?_; first | (refine i_qq ?_; refine qQ ?_) | refine qEf ?_) | refine tl_nil ?_ | (refine i_tc ?_; refine qTc ?_) | (refine i_te ?_; refine qTe ?_) | intro _)
    exact qE (L' := diskK db k D4) ⟨rfl, hl4, D4, hk4, g4, c4, rfl⟩
end Go.Proofs.E

namespace Go.Proofs.E
open Go
set_option linter.unusedVariables false
set_option linter.unusedSimpArgs false
set_option linter.unusedSectionVars false
set_option maxRecDepth 4000
set_option maxHeartbeats 1000000
attribute [local irreducible] Yl TL TC TE Spec YSpec R1 Hp.le EnvLe TS TR YS Stays
theorem fewC_id {ρ : Hp} {w : CV} {c : Cont} (h : ContI ρ (w, c)) : IdFit (fewC c) := by
  refine ⟨fun r hr => ?_, fun k hk => h.kid k (List.mem_of_mem_take hk)⟩
  simp only [fewC, List.mem_map] at hr
  obtain ⟨r0, hr0, rfl⟩ := hr
  have := h.row r0 (List.mem_of_mem_take hr0)
  exact ⟨this.id, this.val⟩
theorem ContI.mono {ρ ρ' : Hp} {x : CV × Cont} (h : ContI ρ x) (hl : ρ.le ρ') : ContI ρ' x := ⟨h.c.mono hl, h.row, h.kid⟩
theorem DeedIn.mono {ρ ρ' : Hp} {e : DeedV} (h : DeedIn ρ e) (hl : ρ.le ρ') : DeedIn ρ' e := ⟨h.page, h.arm, h.fail, h.lsn, h.c.mono hl, h.ks.mono hl, h.kc, h.kb⟩
abbrev arrV (p : Nat → Pg) : List Value := [.int .i64 (p 0).h.1.kind, .slice (p 0).w.ra (p 0).w.rn (p 0).w.rc, .slice (p 0).w.ka (p 0).w.kn (p 0).w.kc, .int .u64 ((p 0).h.2 : Nat),
  .int .i64 (p 1).h.1.kind, .slice (p 1).w.ra (p 1).w.rn (p 1).w.rc, .slice (p 1).w.ka (p 1).w.kn (p 1).w.kc, .int .u64 ((p 1).h.2 : Nat),
  .int .i64 (p 2).h.1.kind, .slice (p 2).w.ra (p 2).w.rn (p 2).w.rc, .slice (p 2).w.ka (p 2).w.kn (p 2).w.kc, .int .u64 ((p 2).h.2 : Nat),
  .int .i64 (p 3).h.1.kind, .slice (p 3).w.ra (p 3).w.rn (p 3).w.rc, .slice (p 3).w.ka (p 3).w.kn (p 3).w.kc, .int .u64 ((p 3).h.2 : Nat)]
def updP (p : Nat → Pg) (n : Nat) (v : Pg) : Nat → Pg := fun k => if k = n then v else p k
theorem upd_held (p : Nat → Pg) (n : Nat) (v : Pg) : upd (fun i => (p i).h) n v.h = fun i => (updP p n v i).h := by
  funext i
  unfold upd updP
  split <;> rfl
theorem updP_in {ρ : Hp} {p : Nat → Pg} {n : Nat} {v : Pg} (h : ∀ i, CIn ρ (p i).w (p i).h.1.rows (p i).h.1.kids) (hv : CIn ρ v.w v.h.1.rows v.h.1.kids) : ∀ i, CIn ρ (updP p n v i).w (updP p n v i).h.1.rows (updP p n v i).h.1.kids := fun i => by
  unfold updP
  split
  · exact hv
  · exact h i
theorem kcopy (ρ : Hp) (db : Nat) (k : DK) (D : DS) (hD : DOk k D) : Spec Try.prog 36 [.pointer (some ⟨db, 0, none⟩)] ρ (diskK db k D) (fun v ρ' L' => ρ' = ρ ∧ ∃ db' k', v = .pointer (some ⟨db', 0, none⟩) ∧ DOk k' D ∧ L' = diskK db k D ++ diskK db' k' D) :=
  (copy_spec ρ db k.hb k.mb k.es k.ck D hD.ok).mono (fun v ρ' L' _ ⟨h1, b', hb', mb', h2, h3⟩ => ⟨h1, b', ⟨hb', mb', k.es, k.ck⟩, h2, ⟨hD.1, hD.2⟩, h3⟩)
theorem is14_yes (ρ : Hp) (p : Pg) (hp : CIn ρ p.w p.h.1.rows p.h.1.kids) (fb db num t : Nat) (hf : FIn ρ fb db 4) (hn : num < 64) (k : DK) (D : DS) (hD : DOk k D) (held : Nat → Held) (h : FO D 4 t held) (hcm : D.Calm) (he : held num = p.h) :
    Spec Try.prog 37 [.agg ⟨pgV p⟩, .pointer (some ⟨fb, 0, none⟩), .int .i64 num] ρ (diskK db k D) (fun v ρ' L' => v = .bool true ∧ ρ.le ρ' ∧ ∃ D', DOk k D' ∧ FO D' 4 t held ∧ D'.Calm ∧ L' = diskK db k D') := by
  have := is14_spec ρ p hp fb db num t hf hn k D hD held h hcm
  rw [decide_eq_true he] at this
  exact this
theorem turns14_spec (ρ : Hp) (a : Option Addr) (n c : Nat) (l : List DeedV) (hl : AIn ρ 8 deedC a n l) (hin : ∀ e ∈ l, DeedIn ρ e) (hbig : n ≤ 9223372036854775807) :
    Spec Try.prog 7 [.slice a n c] ρ [] (fun v ρ' L' => v = .bool true ∧ ρ.le ρ' ∧ L' = []) := by
  have hlen := hl.len
  refine spec_enter Try.func7 rfl rfl rfl fun u R => ?_
  simp only [argsE, List.cons_append, List.nil_append]
  repeat' (first | (refine tl_is (.func 27) ?_; refine qC rfl rfl (wakes14_spec _) ?_; rintro v ρ' L' hle ⟨rfl, hl1, rfl⟩ <;> (try simp only [List.cons_append, List.nil_append, List.append_eq])) | (refine tl_is (.func 23) ?_; refine qC rfl rfl (knew _ 260 (by omega) (by omega)) ?_; rintro v ρ' L' hle ⟨rfl, db, k0, rfl, hk0, rfl⟩ <;> (try simp only [List.cons_append, List.nil_append, List.append_eq])) | (refine tl_is (.func 28) ?_; refine qC rfl rfl (kformat14 _ db 260 k0 hk0 (by omega) (by omega)) ?_; rintro v1 ρ1 L1 hle1 ⟨hl2, fb, k1, D1, rfl, hf1, hk1, g1, c1, rfl⟩; try simp only [List.cons_append, List.nil_append, List.append_assoc, List.append_eq]) | (refine i_op ?_; first | (refine i_qq ?_; refine qQ ?_) | refine qEf ?_) | refine tl_nil ?_ | (refine i_tc ?_; refine qTc ?_) | (refine i_te ?_; refine qTe ?_) | intro _)
  rename_i b7
  refine tc_loop_g [(3, _), (5, _), (7, _), (32, _), (33, _)] (fun (ζ : (Nat) × (Hp) × (Nat → Pg) × (DK) × (DS)) => [(34, .int .i64 ζ.1), (2, .bool false)]) (fun (ζ : (Nat) × (Hp) × (Nat → Pg) × (DK) × (DS)) => ζ.2.1) (fun (ζ : (Nat) × (Hp) × (Nat → Pg) × (DK) × (DS)) => [[(b7, .cells ⟨arrV ζ.2.2.1⟩ 85 (0, 0))]] ++ diskK db ζ.2.2.2.1 ζ.2.2.2.2) (fun (ζ : (Nat) × (Hp) × (Nat → Pg) × (DK) × (DS)) => (ζ.1 ≤ n ∧ ζ.1 ≤ 40) ∧ ρ1.le ζ.2.1 ∧ DOk ζ.2.2.2.1 ζ.2.2.2.2 ∧ FO ζ.2.2.2.2 4 ζ.1 (fun i => (ζ.2.2.1 i).h) ∧ ζ.2.2.2.2.Calm ∧ (∀ i, CIn ζ.2.1 (ζ.2.2.1 i).w (ζ.2.2.1 i).h.1.rows (ζ.2.2.1 i).h.1.kids)) (fun (ζ : (Nat) × (Hp) × (Nat → Pg) × (DK) × (DS)) => n - ζ.1) ((0, ρ1, fun _ => ⟨zCV, zHeld⟩, k1, D1)) (⟨⟨Nat.zero_le _, Nat.zero_le _⟩, Hp.le_refl _, hk1, g1, c1, fun _ => CIn.nil⟩) ev_le ev_le rfl tk ?_
  rintro ⟨j, ρ2, p, k, D⟩ hI
  try simp only [List.cons_append, List.nil_append, List.append_assoc, List.append_eq] at hI ⊢
  try dsimp only at hI ⊢
  obtain ⟨⟨hj, hj4⟩, hle2', hk, g, cm, hpc⟩ := hI
  have hlm := Hp.le_trans hl1 (Hp.le_trans hl2 hle2')
  have hf := hf1.mono hle2'
  by_cases hlt : j < n
  · obtain ⟨b, off, C, T, fr, rfl, hb, hb5, hc⟩ := (hl.mono hlm).get (show j < l.length by omega)
    have he := (hin _ (List.getElem_mem (show j < l.length by omega))).mono hlm
    generalize l[j]'(by omega) = e at *
    by_cases h40 : j = 40
    · repeat' (first | (refine i_op ?_; first | (refine i_qq ?_; refine qQ ?_) | refine qEf ?_) | refine tl_nil ?_ | (refine i_tc ?_; refine qTc ?_) | (refine i_te ?_; refine qTe ?_) | intro _)
      exact qE (L' := []) ⟨rfl, hlm, rfl⟩
    · have hK0 := u64_mod e.page 4 (by omega) (by omega)
      rw [hK0.2.2] at hK0
      replace hK0 := And.intro hK0.1 hK0.2.1
      obtain ⟨K, hK⟩ : ∃ K : Int, (IntKind.u64.wrap e.page).tmod 4 = K := ⟨_, rfl⟩
      rw [hK] at hK0
      have hw0 := u64_mod e.page 4 (by omega) (by omega)
      obtain ⟨q, rfl⟩ : ∃ q : Nat, K = q := ⟨K.toNat, by omega⟩
      have hq4 : q < 4 := by omega
      repeat' (first | (refine i_op ?_; first | (refine i_qq ?_; refine qQ ?_) | refine qEf ?_) | refine tl_nil ?_ | (refine i_tc ?_; refine qTc ?_) | (refine i_te ?_; refine qTe ?_) | intro _)
      rename_i b9
      rw [hK]
      refine tc_cut_k R [(2, _), (3, _), (5, _), (7, _), (10, _), (32, _), (33, _), (34, _)] (fun (ζ : (Hp) × (Nat) × (CV)) => [(11, .pointer (some ⟨ζ.2.1, 0, none⟩))]) (fun (ζ : (Hp) × (Nat) × (CV)) => ζ.1) (fun (ζ : (Hp) × (Nat) × (CV)) => [[(ζ.2.1, .cells ⟨pgV ⟨ζ.2.2, (fewC e.c, e.lsn)⟩⟩ 84 (0, 0))], [(b7, .cells ⟨arrV p⟩ 85 (0, 0))]] ++ diskK db k D) (fun (ζ : (Hp) × (Nat) × (CV)) => ρ2.le ζ.1 ∧ CIn ζ.1 ζ.2.2 (fewC e.c).rows (fewC e.c).kids) ev_le ?_ ?_
      · refine tc_any (Stays _ _ ([[(b9, .cells ⟨deedC e⟩ 87 (0, 0))]])) (stays_of (hT := tk) (Hp.le_refl _)) ?_
        all_goals refine rFa 0 ?_
        all_goals refine rLd 1 ?_
        all_goals refine rFa 3 ?_
        all_goals refine rLd 4 ?_
        all_goals (refine rStep2 (i := 2) (j := 6) ?_ ?_ <;> ((try refine qWant ?_); (first | (refine tl_is (.func 35) ?_; refine qC rfl rfl (few14_spec _ e.w e.c he.c.c) ?_; rintro v2 ρ3 L2 hle2 ⟨hl3, w3, rfl, hC3, rfl⟩; try simp only [List.cons_append, List.nil_append, List.append_eq]) | (refine qEf ?_; try intro _)) <;> ((try simp only [List.cons_append, List.nil_append, List.append_eq]); refine tl_nil ?_; refine rNext ?_)))
        all_goals (first | refine rBu 5 ?_ | (refine rStep (i := 2) ?_; ((try refine qWant ?_); (first | (refine tl_is (.func 35) ?_; refine qC rfl rfl (few14_spec _ e.w e.c he.c.c) ?_; rintro v2 ρ3 L2 hle2 ⟨hl3, w3, rfl, hC3, rfl⟩; try simp only [List.cons_append, List.nil_append, List.append_eq]) | (refine qEf ?_; try intro _)) <;> ((try simp only [List.cons_append, List.nil_append, List.append_eq]); refine tl_nil ?_; refine rNext ?_))))
        all_goals (first | (refine rStep (i := 6) ?_; ((try refine qWant ?_); (first | (refine qEf ?_; try intro _)) <;> ((try simp only [List.cons_append, List.nil_append, List.append_eq]); refine tl_nil ?_; refine rNext ?_))) | refine rBu 5 ?_)
        all_goals (refine rStep (i := 7) ?_; ((try refine qWant ?_); (first | (refine qEf ?_; try intro _)) <;> ((try simp only [List.cons_append, List.nil_append, List.append_eq]); refine tl_nil ?_; refine rNext ?_)))
        all_goals refine rDone ?_
        all_goals refine te_cut_g ((ρ3, _, w3)) (⟨hl3, hC3⟩) ev_le ev_le rfl tk inferInstance
      · rintro ⟨ρ3, b11, v1⟩ ⟨hl3, hC3⟩
        simp only [List.cons_append, List.nil_append] at hl3 hC3 ⊢
        have hid := fewC_id he.c
        have hpc3 : ∀ i, CIn ρ3 (p i).w (p i).h.1.rows (p i).h.1.kids := fun i => (hpc i).mono hl3
        have hls := he.lsn
        have hf3 := hf.mono hl3
        generalize fewC e.c = cc at *
        refine tc_seq ?_
        refine tc_cut_k R [(2, _), (3, _), (5, _), (7, _), (32, _), (33, _), (34, _)] (fun (ζ : (Hp) × (Nat → Pg) × (DK) × (DS)) => []) (fun (ζ : (Hp) × (Nat → Pg) × (DK) × (DS)) => ζ.1) (fun (ζ : (Hp) × (Nat → Pg) × (DK) × (DS)) => [[(b7, .cells ⟨arrV ζ.2.1⟩ 85 (0, 0))]] ++ diskK db ζ.2.2.1 ζ.2.2.2) (fun (ζ : (Hp) × (Nat → Pg) × (DK) × (DS)) => ρ3.le ζ.1 ∧ DOk ζ.2.2.1 ζ.2.2.2 ∧ FO ζ.2.2.2 4 (j + 1) (fun i => (ζ.2.1 i).h) ∧ ζ.2.2.2.Calm ∧ (∀ i, CIn ζ.1 (ζ.2.1 i).w (ζ.2.1 i).h.1.rows (ζ.2.1 i).h.1.kids)) ev_le ?_ ?_
        · cases hok : contOk cc with
          | false =>
            repeat' (first | (refine tl_is (.func 31) ?_; refine qC rfl rfl (Write_bad _ fb q e.lsn (by omega) cc v1 hC3 hok) ?_; rintro v ρ' L' hle ⟨rfl, rfl, rfl⟩ <;> (try simp only [List.cons_append, List.nil_append, List.append_eq])) | (refine i_op ?_; first | (refine i_qq ?_; refine qQ ?_) | refine qEf ?_) | refine tl_nil ?_ | (refine i_tc ?_; refine qTc ?_) | (refine i_te ?_; refine qTe ?_) | intro _)
            refine te_cut_g ((_, p, k, D)) (⟨Hp.le_refl _, hk, g.mono (by omega), cm, hpc3⟩) ev_le ev_le rfl tk inferInstance
          | true =>
            have hfit : Fit cc := ⟨hok, hid⟩
            repeat' (first | (refine tl_is (.func 31) ?_; refine qC rfl rfl (kwrite14 _ fb db q e.lsn j hf3 (by omega) hls cc v1 hC3 hfit k D hk _ g cm (by unfold M64; omega)) ?_; rintro v3 ρ5 L3 hle3 ⟨rfl, hl5, k3, D3, hk3, g3, c3, rfl⟩; try simp only [List.cons_append, List.nil_append, List.append_assoc, List.append_eq]) | (refine i_op ?_; first | (refine i_qq ?_; refine qQ ?_) | refine qEf ?_) | refine tl_nil ?_ | (refine i_tc ?_; refine qTc ?_) | (refine i_te ?_; refine qTe ?_) | intro _)
            rw [upd_held p q ⟨v1, (cc, e.lsn)⟩] at g3
            have hpc5 := updP_in (n := q) (v := ⟨v1, (cc, e.lsn)⟩) (fun i => (hpc3 i).mono hl5) (hC3.mono hl5)
            have hqc : q = 0 ∨ q = 1 ∨ q = 2 ∨ q = 3 := by omega
            rcases hqc with rfl | rfl | rfl | rfl
            · repeat' (first | (refine i_op ?_; first | (refine i_qq ?_; refine qQ ?_) | refine qEf ?_) | refine tl_nil ?_ | (refine i_tc ?_; refine qTc ?_) | (refine i_te ?_; refine qTe ?_) | intro _)
              show TE _ _ _ _ _ (diskK db k3 D3 ++ ([(b11, _)] :: [(b7, .cells ⟨arrV (updP p 0 ⟨v1, (cc, e.lsn)⟩)⟩ 85 (0, 0))] :: R))
              refine te_cut_g ((_, updP p 0 ⟨v1, (cc, e.lsn)⟩, k3, D3)) (⟨hl5, hk3, g3, c3, hpc5⟩) ev_le ev_le rfl tk inferInstance
            · repeat' (first | (refine i_op ?_; first | (refine i_qq ?_; refine qQ ?_) | refine qEf ?_) | refine tl_nil ?_ | (refine i_tc ?_; refine qTc ?_) | (refine i_te ?_; refine qTe ?_) | intro _)
              show TE _ _ _ _ _ (diskK db k3 D3 ++ ([(b11, _)] :: [(b7, .cells ⟨arrV (updP p 1 ⟨v1, (cc, e.lsn)⟩)⟩ 85 (0, 0))] :: R))
              refine te_cut_g ((_, updP p 1 ⟨v1, (cc, e.lsn)⟩, k3, D3)) (⟨hl5, hk3, g3, c3, hpc5⟩) ev_le ev_le rfl tk inferInstance
            · repeat' (first | (refine i_op ?_; first | (refine i_qq ?_; refine qQ ?_) | refine qEf ?_) | refine tl_nil ?_ | (refine i_tc ?_; refine qTc ?_) | (refine i_te ?_; refine qTe ?_) | intro _)
              show TE _ _ _ _ _ (diskK db k3 D3 ++ ([(b11, _)] :: [(b7, .cells ⟨arrV (updP p 2 ⟨v1, (cc, e.lsn)⟩)⟩ 85 (0, 0))] :: R))
              refine te_cut_g ((_, updP p 2 ⟨v1, (cc, e.lsn)⟩, k3, D3)) (⟨hl5, hk3, g3, c3, hpc5⟩) ev_le ev_le rfl tk inferInstance
            · repeat' (first | (refine i_op ?_; first | (refine i_qq ?_; refine qQ ?_) | refine qEf ?_) | refine tl_nil ?_ | (refine i_tc ?_; refine qTc ?_) | (refine i_te ?_; refine qTe ?_) | intro _)
              show TE _ _ _ _ _ (diskK db k3 D3 ++ ([(b11, _)] :: [(b7, .cells ⟨arrV (updP p 3 ⟨v1, (cc, e.lsn)⟩)⟩ 85 (0, 0))] :: R))
              refine te_cut_g ((_, updP p 3 ⟨v1, (cc, e.lsn)⟩, k3, D3)) (⟨hl5, hk3, g3, c3, hpc5⟩) ev_le ev_le rfl tk inferInstance
        · rintro ⟨ρ4, p2, k2, D2⟩ ⟨hl4, hk2, g2, cm2, hpc2⟩
          simp only [List.cons_append, List.nil_append] at hl4 hk2 g2 cm2 hpc2 ⊢
          have hl14 := Hp.le_trans hle2' (Hp.le_trans hl3 hl4)
          have hln := g2.len
          repeat' (first | (refine tl_is (.func 36) ?_; refine qC rfl rfl (kcopy _ db k2 D2 hk2) ?_; rintro v ρ' L' hle ⟨rfl, db2, kc, rfl, hkc, rfl⟩ <;> (try simp only [List.cons_append, List.nil_append, List.append_eq])) | (refine tl_is (.func 29) ?_; refine qC rfl rfl (Open_spec _ db2 kc D2 hkc 4 (by omega)) ?_; rintro v5 ρ6 L5 hle5 ⟨hl6, fb2, rfl, hF2, rfl⟩; try simp only [List.cons_append, List.nil_append, List.append_assoc, List.append_eq]) | (refine i_op ?_; first | (refine i_qq ?_; refine qQ ?_) | refine qEf ?_) | refine tl_nil ?_ | (refine i_tc ?_; refine qTc ?_) | (refine i_te ?_; refine qTe ?_) | intro _)
          refine tc_loop_g [(3, _), (5, _), (7, _), (12, _), (13, _), (32, _), (33, _), (34, _)] (fun (ζ : (Nat) × (Hp) × (DS) × (DS)) => [(71, .int .i64 ζ.1), (2, .bool false)]) (fun (ζ : (Nat) × (Hp) × (DS) × (DS)) => ζ.2.1) (fun (ζ : (Nat) × (Hp) × (DS) × (DS)) => [[(b7, .cells ⟨arrV p2⟩ 85 (0, 0))]] ++ (diskK db k2 ζ.2.2.1 ++ diskK db2 kc ζ.2.2.2)) (fun (ζ : (Nat) × (Hp) × (DS) × (DS)) => ζ.1 ≤ 4 ∧ ρ1.le ζ.2.1 ∧ FIn ζ.2.1 fb2 db2 4 ∧ (∀ z, CIn ζ.2.1 (p2 z).w (p2 z).h.1.rows (p2 z).h.1.kids) ∧ DOk k2 ζ.2.2.1 ∧ FO ζ.2.2.1 4 (j + 1) (fun z => (p2 z).h) ∧ ζ.2.2.1.Calm ∧ DOk kc ζ.2.2.2 ∧ FO ζ.2.2.2 4 (j + 1) (fun z => (p2 z).h) ∧ ζ.2.2.2.Calm) (fun (ζ : (Nat) × (Hp) × (DS) × (DS)) => 4 - ζ.1) ((0, ρ6, D2, D2)) (⟨by omega, Hp.le_trans hl14 hl6, hF2, fun i => (hpc2 i).mono hl6, hk2, g2, cm2, hkc, g2, cm2⟩) ev_le ev_le rfl tk ?_
          rintro ⟨i, ρ7, Da, Db⟩ hI
          try simp only [List.cons_append, List.nil_append, List.append_assoc, List.append_eq] at hI ⊢
          try dsimp only at hI ⊢
          obtain ⟨hi4, hl7, hF7, hp7, hka, ga, ca, hkb, gb, cb⟩ := hI
          have hf7 := hf1.mono hl7
          by_cases hil : i < 4
          · have hic : i = 0 ∨ i = 1 ∨ i = 2 ∨ i = 3 := by omega
            rcases hic with rfl | rfl | rfl | rfl
            · repeat' (first | (refine tl_is (.func 37) ?_; refine qC rfl rfl (is14_yes _ (p2 0) (hp7 0) fb db 0 (j + 1) hf7 (by omega) k2 Da hka _ ga ca rfl) ?_; rintro v8 ρ8 L8 hle8 ⟨rfl, hl8, Da2, hka2, ga2, ca2, rfl⟩; try simp only [List.cons_append, List.nil_append, List.append_assoc, List.append_eq]) | (refine tl_y (y_load_sub (off := 0) (n := 4) rfl) rfl rfl ?_) | (refine i_op ?_; first | (refine i_qq ?_; refine qQ ?_) | refine qEf ?_) | refine tl_nil ?_ | (refine i_tc ?_; refine qTc ?_) | (refine i_te ?_; refine qTe ?_) | intro _)
              repeat' (first | (refine tl_is (.func 37) ?_; refine qC rfl rfl (is14_yes _ (p2 0) ((hp7 0).mono hl8) fb2 db2 0 (j + 1) (hF7.mono hl8) (by omega) kc Db hkb _ gb cb rfl) ?_; rintro v9 ρ9 L9 hle9 ⟨rfl, hl9, Db2, hkb2, gb2, cb2, rfl⟩; try simp only [List.cons_append, List.nil_append, List.append_assoc, List.append_eq]) | (refine tl_y (y_load_sub (off := 0) (n := 4) rfl) rfl rfl ?_) | (refine i_op ?_; first | (refine i_qq ?_; refine qQ ?_) | refine qEf ?_) | refine tl_nil ?_ | (refine i_tc ?_; refine qTc ?_) | (refine i_te ?_; refine qTe ?_) | intro _)
              have hl89 := Hp.le_trans hl8 hl9
              refine te_round_g (1, _, Da2, Db2) (⟨by omega, Hp.le_trans hl7 hl89, hF7.mono hl89, fun i => (hp7 i).mono hl89, hka2, ga2, ca2, hkb2, gb2, cb2⟩) ev_le ev_le rfl tk inferInstance (by first | omega | (dsimp only; omega))
            · repeat' (first | (refine tl_is (.func 37) ?_; refine qC rfl rfl (is14_yes _ (p2 1) (hp7 1) fb db 1 (j + 1) hf7 (by omega) k2 Da hka _ ga ca rfl) ?_; rintro v8 ρ8 L8 hle8 ⟨rfl, hl8, Da2, hka2, ga2, ca2, rfl⟩; try simp only [List.cons_append, List.nil_append, List.append_assoc, List.append_eq]) | (refine i_op ?_; first | (refine i_qq ?_; refine qQ ?_) | refine qEf ?_) | refine tl_nil ?_ | (refine i_tc ?_; refine qTc ?_) | (refine i_te ?_; refine qTe ?_) | intro _)
              repeat' (first | (refine tl_is (.func 37) ?_; refine qC rfl rfl (is14_yes _ (p2 1) ((hp7 1).mono hl8) fb2 db2 1 (j + 1) (hF7.mono hl8) (by omega) kc Db hkb _ gb cb rfl) ?_; rintro v9 ρ9 L9 hle9 ⟨rfl, hl9, Db2, hkb2, gb2, cb2, rfl⟩; try simp only [List.cons_append, List.nil_append, List.append_assoc, List.append_eq]) | (refine i_op ?_; first | (refine i_qq ?_; refine qQ ?_) | refine qEf ?_) | refine tl_nil ?_ | (refine i_tc ?_; refine qTc ?_) | (refine i_te ?_; refine qTe ?_) | intro _)
              have hl89 := Hp.le_trans hl8 hl9
              refine te_round_g (2, _, Da2, Db2) (⟨by omega, Hp.le_trans hl7 hl89, hF7.mono hl89, fun i => (hp7 i).mono hl89, hka2, ga2, ca2, hkb2, gb2, cb2⟩) ev_le ev_le rfl tk inferInstance (by first | omega | (dsimp only; omega))
            · repeat' (first | (refine tl_is (.func 37) ?_; refine qC rfl rfl (is14_yes _ (p2 2) (hp7 2) fb db 2 (j + 1) hf7 (by omega) k2 Da hka _ ga ca rfl) ?_; rintro v8 ρ8 L8 hle8 ⟨rfl, hl8, Da2, hka2, ga2, ca2, rfl⟩; try simp only [List.cons_append, List.nil_append, List.append_assoc, List.append_eq]) | (refine i_op ?_; first | (refine i_qq ?_; refine qQ ?_) | refine qEf ?_) | refine tl_nil ?_ | (refine i_tc ?_; refine qTc ?_) | (refine i_te ?_; refine qTe ?_) | intro _)
              repeat' (first | (refine tl_is (.func 37) ?_; refine qC rfl rfl (is14_yes _ (p2 2) ((hp7 2).mono hl8) fb2 db2 2 (j + 1) (hF7.mono hl8) (by omega) kc Db hkb _ gb cb rfl) ?_; rintro v9 ρ9 L9 hle9 ⟨rfl, hl9, Db2, hkb2, gb2, cb2, rfl⟩; try simp only [List.cons_append, List.nil_append, List.append_assoc, List.append_eq]) | (refine i_op ?_; first | (refine i_qq ?_; refine qQ ?_) | refine qEf ?_) | refine tl_nil ?_ | (refine i_tc ?_; refine qTc ?_) | (refine i_te ?_; refine qTe ?_) | intro _)
              have hl89 := Hp.le_trans hl8 hl9
              refine te_round_g (3, _, Da2, Db2) (⟨by omega, Hp.le_trans hl7 hl89, hF7.mono hl89, fun i => (hp7 i).mono hl89, hka2, ga2, ca2, hkb2, gb2, cb2⟩) ev_le ev_le rfl tk inferInstance (by first | omega | (dsimp only; omega))
            · repeat' (first | (refine tl_is (.func 37) ?_; refine qC rfl rfl (is14_yes _ (p2 3) (hp7 3) fb db 3 (j + 1) hf7 (by omega) k2 Da hka _ ga ca rfl) ?_; rintro v8 ρ8 L8 hle8 ⟨rfl, hl8, Da2, hka2, ga2, ca2, rfl⟩; try simp only [List.cons_append, List.nil_append, List.append_assoc, List.append_eq]) | (refine i_op ?_; first | (refine i_qq ?_; refine qQ ?_) | refine qEf ?_) | refine tl_nil ?_ | (refine i_tc ?_; refine qTc ?_) | (refine i_te ?_; refine qTe ?_) | intro _)
              repeat' (first | (refine tl_is (.func 37) ?_; refine qC rfl rfl (is14_yes _ (p2 3) ((hp7 3).mono hl8) fb2 db2 3 (j + 1) (hF7.mono hl8) (by omega) kc Db hkb _ gb cb rfl) ?_; rintro v9 ρ9 L9 hle9 ⟨rfl, hl9, Db2, hkb2, gb2, cb2, rfl⟩; try simp only [List.cons_append, List.nil_append, List.append_assoc, List.append_eq]) | (refine i_op ?_; first | (refine i_qq ?_; refine qQ ?_) | refine qEf ?_) | refine tl_nil ?_ | (refine i_tc ?_; refine qTc ?_) | (refine i_te ?_; refine qTe ?_) | intro _)
              have hl89 := Hp.le_trans hl8 hl9
              refine te_round_g (4, _, Da2, Db2) (⟨by omega, Hp.le_trans hl7 hl89, hF7.mono hl89, fun i => (hp7 i).mono hl89, hka2, ga2, ca2, hkb2, gb2, cb2⟩) ev_le ev_le rfl tk inferInstance (by first | omega | (dsimp only; omega))
          · repeat' (first | (refine i_op ?_; first | (refine i_qq ?_; refine qQ ?_) | refine qEf ?_) | refine tl_nil ?_ | (refine i_tc ?_; refine qTc ?_) | (refine i_te ?_; refine qTe ?_) | intro _)
            refine te_round_g (j + 1, _, p2, k2, Da) (⟨⟨hlt, by omega⟩, hl7, hka, ga, ca, hp7⟩) ev_le ev_le rfl tk inferInstance (by first | omega | (dsimp only; omega))
  · repeat' (first | (refine i_op ?_; first | (refine i_qq ?_; refine qQ ?_) | refine qEf ?_) | refine tl_nil ?_ | (refine i_tc ?_; refine qTc ?_) | (refine i_te ?_; refine qTe ?_) | intro _)
    exact qE (L' := []) ⟨rfl, hlm, rfl⟩
end Go.Proofs.E

namespace Go.Proofs.E
open Go
set_option linter.unusedVariables false
set_option linter.unusedSimpArgs false
set_option linter.unusedSectionVars false
set_option maxRecDepth 4000
set_option maxHeartbeats 1000000
attribute [local irreducible] Yl TL TC TE Spec YSpec R1 Hp.le EnvLe TS TR YS Stays
theorem kcrash (ρ : Hp) (db : Nat) (k : DK) (D : DS) (hD : DOk k D) (ka : Option Addr) (kn kp : Nat) (ks : List Bool) (hk : SIn ρ bb ka kn ks) (hn : kn ≤ 40) (hp : kn ≤ kp) :
    Spec Try.prog 22 [.pointer (some ⟨db, 0, none⟩), .slice ka kn kp] ρ (diskK db k D)
      (fun v ρ' L' => v = .int .i64 0 ∧ ρ.le ρ' ∧ ∃ k', DOk k' (D.crash (keepB (ks.take 60))) ∧ L' = diskK db k' (D.crash (keepB (ks.take 60)))) :=
  (crash_in ρ db k.hb k.mb k.es k.ck D hD.ok hD.map ka kn kp kn ks ⟨hp, hk.len, by omega, hk.out⟩ (by omega)).mono (fun v ρ' L' _ ⟨h1, h2, mb', ck', h3⟩ => ⟨h1, h2, ⟨k.hb, mb', [], ck'⟩, ⟨hD.ok.crash, MapOk.empty emptyC_settled⟩, h3⟩)
theorem arm_secs (D : DS) (n : Int) : (D.arm n).1.secs = D.secs := by unfold DS.arm; split <;> rfl
theorem fail_secs (D : DS) (n : Int) : (D.fail n).1.secs = D.secs := by unfold DS.fail; split <;> rfl
theorem crash_calm (D : DS) (keep : Nat → Bool) : (D.crash keep).Calm := ⟨rfl, rfl, rfl⟩
theorem FO.arm {D : DS} {base t : Nat} {held : Nat → Held} (h : FO D base t held) (n : Int) (hn : -1 ≤ n ∧ n ≤ 9223372036854775807) : FO (D.arm n).1 base t held ∧ (D.arm n).2 = 0 := by
  have ha := h.alive
  have hd := h.dok
  have hs := arm_secs D n
  unfold DS.arm at hs ⊢
  rw [ha, if_neg (by simp)] at hs ⊢
  exact ⟨h.congr rfl ⟨hd.secs, by dsimp only; omega, by dsimp only; omega, hd.f1, hd.f2⟩ rfl, rfl⟩
theorem FO.fail {D : DS} {base t : Nat} {held : Nat → Held} (h : FO D base t held) (n : Int) (hn : -1 ≤ n ∧ n ≤ 9223372036854775807) : FO (D.fail n).1 base t held ∧ (D.fail n).2 = 0 := by
  have ha := h.alive
  have hd := h.dok
  unfold DS.fail
  rw [ha, if_neg (by simp)]
  exact ⟨h.congr rfl ⟨hd.secs, hd.a1, hd.a2, by dsimp only; omega, by dsimp only; omega⟩ rfl, rfl⟩
theorem karm14 (ρ : Hp) (db : Nat) (k : DK) (D : DS) (hD : DOk k D) (n : Int) {base t : Nat} {held : Nat → Held} (h : FO D base t held) (hn : -1 ≤ n ∧ n ≤ 9223372036854775807) : Spec Try.prog 18 [.pointer (some ⟨db, 0, none⟩), .int .i64 n] ρ (diskK db k D) (fun v ρ' L' => v = .int .i64 0 ∧ ρ' = ρ ∧ DOk k (D.arm n).1 ∧ L' = diskK db k (D.arm n).1) :=
  (arm_disk ρ db k.hb k.mb k.es k.ck D n).mono (fun v ρ' L' _ ⟨h1, h2, h3⟩ => ⟨by rw [h1, (h.arm n hn).2], h2, ⟨(h.arm n hn).1.dok, MapOk.arm hD.map⟩, h3⟩)
theorem kfail14 (ρ : Hp) (db : Nat) (k : DK) (D : DS) (hD : DOk k D) (n : Int) {base t : Nat} {held : Nat → Held} (h : FO D base t held) (hn : -1 ≤ n ∧ n ≤ 9223372036854775807) : Spec Try.prog 19 [.pointer (some ⟨db, 0, none⟩), .int .i64 n] ρ (diskK db k D) (fun v ρ' L' => v = .int .i64 0 ∧ ρ' = ρ ∧ DOk k (D.fail n).1 ∧ L' = diskK db k (D.fail n).1) :=
  (fail_disk ρ db k.hb k.mb k.es k.ck D n).mono (fun v ρ' L' _ ⟨h1, h2, h3⟩ => ⟨by rw [h1, (h.fail n hn).2], h2, ⟨(h.fail n hn).1.dok, MapOk.fail hD.map⟩, h3⟩)
theorem calm_off (D : DS) (h : D.dead = false) : ((D.arm (-1)).1.fail (-1)).1.Calm := by
  obtain ⟨s, o, a, f, d⟩ := D
  cases h
  exact ⟨rfl, rfl, rfl⟩
end Go.Proofs.E

namespace Go.Proofs.E
open Go
set_option linter.unusedVariables false
set_option linter.unusedSimpArgs false
set_option linter.unusedSectionVars false
set_option maxRecDepth 4000
set_option maxHeartbeats 1000000
attribute [local irreducible] Yl TL TC TE Spec YSpec R1 Hp.le EnvLe TS TR YS Stays
theorem lasts14_spec (ρ : Hp) (a : Option Addr) (n c : Nat) (l : List DeedV) (hl : AIn ρ 8 deedC a n l) (hin : ∀ e ∈ l, DeedIn ρ e) (hbig : n ≤ 9223372036854775807) :
    Spec Try.prog 8 [.slice a n c] ρ [] (fun v ρ' L' => v = .bool true ∧ ρ.le ρ' ∧ L' = []) := by
  have hlen := hl.len
  refine spec_enter Try.func8 rfl rfl rfl fun u R => ?_
  simp only [argsE, List.cons_append, List.nil_append]
  repeat' (first | (refine tl_is (.func 27) ?_; refine qC rfl rfl (wakes14_spec _) ?_; rintro v ρ' L' hle ⟨rfl, hl1, rfl⟩ <;> (try simp only [List.cons_append, List.nil_append, List.append_eq])) | (refine tl_is (.func 23) ?_; refine qC rfl rfl (knew _ 260 (by omega) (by omega)) ?_; rintro v ρ' L' hle ⟨rfl, db, k0, rfl, hk0, rfl⟩ <;> (try simp only [List.cons_append, List.nil_append, List.append_eq])) | (refine tl_is (.func 28) ?_; refine qC rfl rfl (kformat14 _ db 260 k0 hk0 (by omega) (by omega)) ?_; rintro v1 ρ1 L1 hle1 ⟨hl2, fb, k1, D1, rfl, hf1, hk1, g1, c1, rfl⟩; try simp only [List.cons_append, List.nil_append, List.append_assoc, List.append_eq]) | (refine i_op ?_; first | (refine i_qq ?_; refine qQ ?_) | refine qEf ?_) | refine tl_nil ?_ | (refine i_tc ?_; refine qTc ?_) | (refine i_te ?_; refine qTe ?_) | intro _)
  rename_i b7
  refine tc_loop_g [(3, _), (7, _), (31, _), (32, _)] (fun (ζ : (Nat) × (Hp) × (Nat) × (Nat → Pg) × (DK) × (DS)) => [(33, .int .i64 ζ.1), (5, .pointer (some ⟨ζ.2.2.1, 0, none⟩)), (2, .bool false)]) (fun (ζ : (Nat) × (Hp) × (Nat) × (Nat → Pg) × (DK) × (DS)) => ζ.2.1) (fun (ζ : (Nat) × (Hp) × (Nat) × (Nat → Pg) × (DK) × (DS)) => [[(b7, .cells ⟨arrV ζ.2.2.2.1⟩ 85 (0, 0))]] ++ diskK db ζ.2.2.2.2.1 ζ.2.2.2.2.2) (fun (ζ : (Nat) × (Hp) × (Nat) × (Nat → Pg) × (DK) × (DS)) => (ζ.1 ≤ n ∧ ζ.1 ≤ 40) ∧ ρ1.le ζ.2.1 ∧ FIn ζ.2.1 ζ.2.2.1 db 4 ∧ DOk ζ.2.2.2.2.1 ζ.2.2.2.2.2 ∧ FO ζ.2.2.2.2.2 4 ζ.1 (fun z => (ζ.2.2.2.1 z).h) ∧ (∀ z, CIn ζ.2.1 (ζ.2.2.2.1 z).w (ζ.2.2.2.1 z).h.1.rows (ζ.2.2.2.1 z).h.1.kids)) (fun (ζ : (Nat) × (Hp) × (Nat) × (Nat → Pg) × (DK) × (DS)) => n - ζ.1) ((0, ρ1, fb, fun _ => ⟨zCV, zHeld⟩, k1, D1)) (⟨⟨Nat.zero_le _, Nat.zero_le _⟩, Hp.le_refl _, hf1, hk1, g1, fun _ => CIn.nil⟩) ev_le ev_le rfl tk ?_
  rintro ⟨j, ρ2, fb0, p, k, D⟩ hI
  try simp only [List.cons_append, List.nil_append, List.append_assoc, List.append_eq] at hI ⊢
  try dsimp only at hI ⊢
  obtain ⟨⟨hj, hj4⟩, hle2', hf, hk, g, hpc⟩ := hI
  have hlm := Hp.le_trans hl1 (Hp.le_trans hl2 hle2')
  by_cases hlt : j < n
  · obtain ⟨b, off, C, T, fr, rfl, hb, hb5, hc⟩ := (hl.mono hlm).get (show j < l.length by omega)
    have he := (hin _ (List.getElem_mem (show j < l.length by omega))).mono hlm
    generalize l[j]'(by omega) = e at *
    by_cases h40 : j = 40
    · repeat' (first | (refine i_op ?_; first | (refine i_qq ?_; refine qQ ?_) | refine qEf ?_) | refine tl_nil ?_ | (refine i_tc ?_; refine qTc ?_) | (refine i_te ?_; refine qTe ?_) | intro _)
      exact qE (L' := []) ⟨rfl, hlm, rfl⟩
    · have hw0 := u64_mod e.page 4 (by omega) (by omega)
      have hK0 := hw0
      rw [hK0.2.2] at hK0
      replace hK0 := And.intro hK0.1 hK0.2.1
      obtain ⟨K, hK⟩ : ∃ K : Int, (IntKind.u64.wrap e.page).tmod 4 = K := ⟨_, rfl⟩
      rw [hK] at hK0
      obtain ⟨q, rfl⟩ : ∃ q : Nat, K = q := ⟨K.toNat, by omega⟩
      have hq4 : q < 4 := by omega
      repeat' (first | (refine i_op ?_; first | (refine i_qq ?_; refine qQ ?_) | refine qEf ?_) | refine tl_nil ?_ | (refine i_tc ?_; refine qTc ?_) | (refine i_te ?_; refine qTe ?_) | intro _)
      rename_i b9
      rw [hK]
      refine tc_cut_k R [(2, _), (3, _), (5, _), (7, _), (9, _), (10, _), (31, _), (32, _), (33, _)] (fun (ζ : (Hp) × (Nat) × (CV)) => [(11, .pointer (some ⟨ζ.2.1, 0, none⟩))]) (fun (ζ : (Hp) × (Nat) × (CV)) => ζ.1) (fun (ζ : (Hp) × (Nat) × (CV)) => [[(ζ.2.1, .cells ⟨pgV ⟨ζ.2.2, (fewC e.c, e.lsn)⟩⟩ 84 (0, 0))], [(b9, .cells ⟨deedC e⟩ 87 (0, 0))], [(b7, .cells ⟨arrV p⟩ 85 (0, 0))]] ++ diskK db k D) (fun (ζ : (Hp) × (Nat) × (CV)) => ρ2.le ζ.1 ∧ CIn ζ.1 ζ.2.2 (fewC e.c).rows (fewC e.c).kids) ev_le ?_ ?_
      · refine tc_any (Stays _ _ ([[(b9, .cells ⟨deedC e⟩ 87 (0, 0))]])) (stays_of (hT := tk) (Hp.le_refl _)) ?_
        all_goals refine rFa 0 ?_
        all_goals refine rLd 1 ?_
        all_goals refine rFa 3 ?_
        all_goals refine rLd 4 ?_
        all_goals (refine rStep2 (i := 2) (j := 6) ?_ ?_ <;> ((try refine qWant ?_); (first | (refine tl_is (.func 35) ?_; refine qC rfl rfl (few14_spec _ e.w e.c he.c.c) ?_; rintro v2 ρ3 L2 hle2 ⟨hl3, w3, rfl, hC3, rfl⟩; try simp only [List.cons_append, List.nil_append, List.append_eq]) | (refine qEf ?_; try intro _)) <;> ((try simp only [List.cons_append, List.nil_append, List.append_eq]); refine tl_nil ?_; refine rNext ?_)))
        all_goals (first | refine rBu 5 ?_ | (refine rStep (i := 2) ?_; ((try refine qWant ?_); (first | (refine tl_is (.func 35) ?_; refine qC rfl rfl (few14_spec _ e.w e.c he.c.c) ?_; rintro v2 ρ3 L2 hle2 ⟨hl3, w3, rfl, hC3, rfl⟩; try simp only [List.cons_append, List.nil_append, List.append_eq]) | (refine qEf ?_; try intro _)) <;> ((try simp only [List.cons_append, List.nil_append, List.append_eq]); refine tl_nil ?_; refine rNext ?_))))
        all_goals (first | (refine rStep (i := 6) ?_; ((try refine qWant ?_); (first | (refine qEf ?_; try intro _)) <;> ((try simp only [List.cons_append, List.nil_append, List.append_eq]); refine tl_nil ?_; refine rNext ?_))) | refine rBu 5 ?_)
        all_goals (refine rStep (i := 7) ?_; ((try refine qWant ?_); (first | (refine qEf ?_; try intro _)) <;> ((try simp only [List.cons_append, List.nil_append, List.append_eq]); refine tl_nil ?_; refine rNext ?_)))
        all_goals refine rDone ?_
        all_goals refine te_cut_g ((ρ3, _, w3)) (⟨hl3, hC3⟩) ev_le ev_le rfl tk inferInstance
      · rintro ⟨ρ3, b11, v1⟩ ⟨hl3, hC3⟩
        simp only [List.cons_append, List.nil_append] at hl3 hC3 ⊢
        have hid := fewC_id he.c
        have hpc3 : ∀ z, CIn ρ3 (p z).w (p z).h.1.rows (p z).h.1.kids := fun z => (hpc z).mono hl3
        have he3 := he.mono hl3
        have hls := he.lsn
        have hf3 := hf.mono hl3
        have hl13 := Hp.le_trans hle2' hl3
        generalize fewC e.c = cc at *
        have hck := check_spec ρ3 v1 cc hC3
        cases hok : contOk cc with
        | false =>
          rw [hok] at hck
          simp only [Bool.false_eq_true, if_false] at hck
          repeat' (first | (refine tl_is (.func 38) ?_; refine qC rfl rfl (hck) ?_; rintro v ρ' L' hle ⟨rfl, rfl, rfl⟩ <;> (try simp only [List.cons_append, List.nil_append, List.append_eq])) | (refine i_op ?_; first | (refine i_qq ?_; refine qQ ?_) | refine qEf ?_) | refine tl_nil ?_ | (refine i_tc ?_; refine qTc ?_) | (refine i_te ?_; refine qTe ?_) | intro _)
          refine te_round_g (j + 1, _, fb0, p, k, D) (⟨⟨hlt, by omega⟩, hl13, hf3, hk, g.mono (by omega), hpc3⟩) ev_le ev_le rfl tk inferInstance (by first | omega | (dsimp only; omega))
        | true =>
          rw [hok] at hck
          simp only [if_true] at hck
          have hfit : Fit cc := ⟨hok, hid⟩
          refine tc_seq ?_
          refine tc_cut_k R [(2, _), (3, _), (5, _), (7, _), (9, _), (10, _), (11, _), (31, _), (32, _), (33, _)] (fun (ζ : (Hp)) => []) (fun (ζ : (Hp)) => ζ) (fun (ζ : (Hp)) => [[(b11, .cells ⟨pgV ⟨v1, (cc, e.lsn)⟩⟩ 84 (0, 0))], [(b9, .cells ⟨deedC e⟩ 87 (0, 0))], [(b7, .cells ⟨arrV p⟩ 85 (0, 0))]] ++ diskK db k D) (fun (ζ : (Hp)) => ρ3.le ζ) ev_le ?_ ?_
          · repeat' (first | (refine tl_is (.func 38) ?_; refine qC rfl rfl (hck) ?_; rintro v ρ' L' hle ⟨rfl, rfl, rfl⟩ <;> (try simp only [List.cons_append, List.nil_append, List.append_eq])) | (refine i_op ?_; first | (refine i_qq ?_; refine qQ ?_) | refine qEf ?_) | refine tl_nil ?_ | (refine i_tc ?_; refine qTc ?_) | (refine i_te ?_; refine qTe ?_) | intro _)
            refine te_cut_g ((_)) ((Hp.le_refl _)) ev_le ev_le rfl tk inferInstance
          · rintro ρ4 hl4
            simp only [List.cons_append, List.nil_append] at hl4 ⊢
            refine tc_seq ?_
            refine tc_cut_k R [(2, _), (3, _), (5, _), (7, _), (9, _), (10, _), (11, _), (31, _), (32, _), (33, _)] (fun (ζ : (Hp) × (DS)) => []) (fun (ζ : (Hp) × (DS)) => ζ.1) (fun (ζ : (Hp) × (DS)) => [[(b11, .cells ⟨pgV ⟨v1, (cc, e.lsn)⟩⟩ 84 (0, 0))], [(b9, .cells ⟨deedC e⟩ 87 (0, 0))], [(b7, .cells ⟨arrV p⟩ 85 (0, 0))]] ++ diskK db k ζ.2) (fun (ζ : (Hp) × (DS)) => ρ4.le ζ.1 ∧ DOk k ζ.2 ∧ FO ζ.2 4 j (fun z => (p z).h)) ev_le ?_ ?_
            · have hba := he.arm
              have hbf := he.fail
              by_cases ha : 0 ≤ e.arm
              · have ht1 : e.arm.tmod 4 = e.arm % 4 := Int.tmod_eq_emod_of_nonneg ha
                have ga := g.arm (e.arm.tmod 4) (by omega)
                by_cases hfl : 0 ≤ e.fail
                · have ht2 : e.fail.tmod 8 = e.fail % 8 := Int.tmod_eq_emod_of_nonneg hfl
                  repeat' (first | (refine tl_is (.func 18) ?_; refine qC rfl rfl (karm14 _ db k D hk (e.arm.tmod 4) g (by omega)) ?_; rintro v ρ' L' hle ⟨rfl, rfl, hk7, rfl⟩ <;> (try simp only [List.cons_append, List.nil_append, List.append_eq])) | (refine tl_is (.func 19) ?_; refine qC rfl rfl (kfail14 _ db k _ (by assumption) (e.fail.tmod 8) ga.1 (by omega)) ?_; rintro v ρ' L' hle ⟨rfl, rfl, hk8, rfl⟩ <;> (try simp only [List.cons_append, List.nil_append, List.append_eq])) | (refine i_op ?_; first | (refine i_qq ?_; refine qQ ?_) | refine qEf ?_) | refine tl_nil ?_ | (refine i_tc ?_; refine qTc ?_) | (refine i_te ?_; refine qTe ?_) | intro _)
                  refine te_cut_g ((_, ((D.arm (e.arm.tmod 4)).1.fail (e.fail.tmod 8)).1)) (⟨Hp.le_refl _, hk8, (ga.1.fail _ (by omega)).1⟩) ev_le ev_le rfl tk inferInstance
                · repeat' (first | (refine tl_is (.func 18) ?_; refine qC rfl rfl (karm14 _ db k D hk (e.arm.tmod 4) g (by omega)) ?_; rintro v ρ' L' hle ⟨rfl, rfl, hk7, rfl⟩ <;> (try simp only [List.cons_append, List.nil_append, List.append_eq])) | (refine i_op ?_; first | (refine i_qq ?_; refine qQ ?_) | refine qEf ?_) | refine tl_nil ?_ | (refine i_tc ?_; refine qTc ?_) | (refine i_te ?_; refine qTe ?_) | intro _)
                  refine te_cut_g ((_, (D.arm (e.arm.tmod 4)).1)) (⟨Hp.le_refl _, hk7, ga.1⟩) ev_le ev_le rfl tk inferInstance
              · by_cases hfl : 0 ≤ e.fail
                · have ht2 : e.fail.tmod 8 = e.fail % 8 := Int.tmod_eq_emod_of_nonneg hfl
                  repeat' (first | (refine tl_is (.func 19) ?_; refine qC rfl rfl (kfail14 _ db k D hk (e.fail.tmod 8) g (by omega)) ?_; rintro v ρ' L' hle ⟨rfl, rfl, hk8, rfl⟩ <;> (try simp only [List.cons_append, List.nil_append, List.append_eq])) | (refine i_op ?_; first | (refine i_qq ?_; refine qQ ?_) | refine qEf ?_) | refine tl_nil ?_ | (refine i_tc ?_; refine qTc ?_) | (refine i_te ?_; refine qTe ?_) | intro _)
                  refine te_cut_g ((_, (D.fail (e.fail.tmod 8)).1)) (⟨Hp.le_refl _, hk8, (g.fail _ (by omega)).1⟩) ev_le ev_le rfl tk inferInstance
                · repeat' (first | (refine i_op ?_; first | (refine i_qq ?_; refine qQ ?_) | refine qEf ?_) | refine tl_nil ?_ | (refine i_tc ?_; refine qTc ?_) | (refine i_te ?_; refine qTe ?_) | intro _)
                  refine te_cut_g ((_, D)) (⟨Hp.le_refl _, hk, g⟩) ev_le ev_le rfl tk inferInstance
            · rintro ⟨ρ5, D2⟩ ⟨hl5, hk2, g2⟩
              simp only [List.cons_append, List.nil_append] at hl5 hk2 g2 ⊢
              clear hk g
              obtain ⟨hw1, hw2, hw3⟩ := g2.write (num := q) (lsn := e.lsn) (c := cc) (by omega) hfit hls (by unfold M64; omega)
              have hl35 := Hp.le_trans hl4 hl5
              have hf5 := hf3.mono hl35
              have hC5 := hC3.mono hl35
              have hwr := Write_spec ρ5 fb0 db 4 q e.lsn hf5 (by omega) (by omega) (by unfold M64 at hls; omega) cc v1 hC5 hok (fun r hr => (hid.row r hr).id) hid.kid k D2 hk2
              generalize writeF D2 4 q e.lsn cc = W at *
              obtain ⟨D3, ec⟩ := W
              dsimp only at hw1 hw2 hw3 hwr
              refine tc_seq ?_
              refine tc_cut_k R [(2, _), (3, _), (5, _), (7, _), (9, _), (10, _), (11, _), (31, _), (32, _), (33, _)] (fun (ζ : (Hp) × (DK)) => [(12, .int .i64 ec)]) (fun (ζ : (Hp) × (DK)) => ζ.1) (fun (ζ : (Hp) × (DK)) => [[(b11, .cells ⟨pgV ⟨v1, (cc, e.lsn)⟩⟩ 84 (0, 0))], [(b9, .cells ⟨deedC e⟩ 87 (0, 0))], [(b7, .cells ⟨arrV p⟩ 85 (0, 0))]] ++ diskK db ζ.2 D3) (fun (ζ : (Hp) × (DK)) => ρ5.le ζ.1 ∧ DOk ζ.2 D3) ev_le ?_ ?_
              · repeat' (first | (refine tl_is (.func 31) ?_; refine qC rfl rfl hwr ?_; rintro v3 ρ7 L3 hle3 ⟨rfl, hl7, k3, hk3, rfl⟩; try simp only [List.cons_append, List.nil_append, List.append_assoc, List.append_eq]) | (refine i_op ?_; first | (refine i_qq ?_; refine qQ ?_) | refine qEf ?_) | refine tl_nil ?_ | (refine i_tc ?_; refine qTc ?_) | (refine i_te ?_; refine qTe ?_) | intro _)
                refine te_cut_g ((_, k3)) (⟨hl7, hk3⟩) ev_le ev_le rfl tk inferInstance
              · rintro ⟨ρ6, k3⟩ ⟨hl6, hk3⟩
                simp only [List.cons_append, List.nil_append] at hl6 hk3 ⊢
                have hl36 := Hp.le_trans hl35 hl6
                refine tc_seq ?_
                refine tc_cut_k R [(2, _), (3, _), (5, _), (7, _), (9, _), (10, _), (11, _), (31, _), (32, _), (33, _)] (fun (ζ : (Hp) × (Nat → Pg)) => [(12, .int .i64 ec)]) (fun (ζ : (Hp) × (Nat → Pg)) => ζ.1) (fun (ζ : (Hp) × (Nat → Pg)) => [[(b11, .cells ⟨pgV ⟨v1, (cc, e.lsn)⟩⟩ 84 (0, 0))], [(b9, .cells ⟨deedC e⟩ 87 (0, 0))], [(b7, .cells ⟨arrV ζ.2⟩ 85 (0, 0))]] ++ diskK db k3 D3) (fun (ζ : (Hp) × (Nat → Pg)) => ρ6.le ζ.1 ∧ (∀ z, CIn ζ.1 (ζ.2 z).w (ζ.2 z).h.1.rows (ζ.2 z).h.1.kids) ∧ (ec = 0 → ζ.2 = updP p q ⟨v1, (cc, e.lsn)⟩) ∧ (¬ ec = 0 → ζ.2 = p)) ev_le ?_ ?_
                · by_cases hz : ec = 0
                  · subst hz
                    have hpc5 := updP_in (n := q) (v := ⟨v1, (cc, e.lsn)⟩) (fun z => (hpc3 z).mono hl36) (hC3.mono hl36)
                    have hqc : q = 0 ∨ q = 1 ∨ q = 2 ∨ q = 3 := by omega
                    rcases hqc with rfl | rfl | rfl | rfl
                    · repeat' (first | (refine i_op ?_; first | (refine i_qq ?_; refine qQ ?_) | refine qEf ?_) | refine tl_nil ?_ | (refine i_tc ?_; refine qTc ?_) | (refine i_te ?_; refine qTe ?_) | intro _)
                      show TE _ _ _ _ _ ([(b11, _)] :: [(b9, _)] :: [(b7, .cells ⟨arrV (updP p 0 ⟨v1, (cc, e.lsn)⟩)⟩ 85 (0, 0))] :: (diskK db k3 D3 ++ R))
                      refine te_cut_g ((_, updP p 0 ⟨v1, (cc, e.lsn)⟩)) (⟨Hp.le_refl _, hpc5, fun _ => rfl, fun h => absurd rfl h⟩) ev_le ev_le rfl tk inferInstance
                    · repeat' (first | (refine i_op ?_; first | (refine i_qq ?_; refine qQ ?_) | refine qEf ?_) | refine tl_nil ?_ | (refine i_tc ?_; refine qTc ?_) | (refine i_te ?_; refine qTe ?_) | intro _)
                      show TE _ _ _ _ _ ([(b11, _)] :: [(b9, _)] :: [(b7, .cells ⟨arrV (updP p 1 ⟨v1, (cc, e.lsn)⟩)⟩ 85 (0, 0))] :: (diskK db k3 D3 ++ R))
                      refine te_cut_g ((_, updP p 1 ⟨v1, (cc, e.lsn)⟩)) (⟨Hp.le_refl _, hpc5, fun _ => rfl, fun h => absurd rfl h⟩) ev_le ev_le rfl tk inferInstance
                    · repeat' (first | (refine i_op ?_; first | (refine i_qq ?_; refine qQ ?_) | refine qEf ?_) | refine tl_nil ?_ | (refine i_tc ?_; refine qTc ?_) | (refine i_te ?_; refine qTe ?_) | intro _)
                      show TE _ _ _ _ _ ([(b11, _)] :: [(b9, _)] :: [(b7, .cells ⟨arrV (updP p 2 ⟨v1, (cc, e.lsn)⟩)⟩ 85 (0, 0))] :: (diskK db k3 D3 ++ R))
                      refine te_cut_g ((_, updP p 2 ⟨v1, (cc, e.lsn)⟩)) (⟨Hp.le_refl _, hpc5, fun _ => rfl, fun h => absurd rfl h⟩) ev_le ev_le rfl tk inferInstance
                    · repeat' (first | (refine i_op ?_; first | (refine i_qq ?_; refine qQ ?_) | refine qEf ?_) | refine tl_nil ?_ | (refine i_tc ?_; refine qTc ?_) | (refine i_te ?_; refine qTe ?_) | intro _)
                      show TE _ _ _ _ _ ([(b11, _)] :: [(b9, _)] :: [(b7, .cells ⟨arrV (updP p 3 ⟨v1, (cc, e.lsn)⟩)⟩ 85 (0, 0))] :: (diskK db k3 D3 ++ R))
                      refine te_cut_g ((_, updP p 3 ⟨v1, (cc, e.lsn)⟩)) (⟨Hp.le_refl _, hpc5, fun _ => rfl, fun h => absurd rfl h⟩) ev_le ev_le rfl tk inferInstance
                  · repeat' (first | (refine i_op ?_; first | (refine i_qq ?_; refine qQ ?_) | refine qEf ?_) | refine tl_nil ?_ | (refine i_tc ?_; refine qTc ?_) | (refine i_te ?_; refine qTe ?_) | intro _)
                    refine te_cut_g ((_, p)) (⟨Hp.le_refl _, fun z => (hpc3 z).mono hl36, fun h => absurd h hz, fun _ => rfl⟩) ev_le ev_le rfl tk inferInstance
                · rintro ⟨ρ7, p2⟩ ⟨hl7, hpc7, hp2a, hp2b⟩
                  simp only [List.cons_append, List.nil_append] at hl7 hpc7 hp2a hp2b ⊢
                  have hl37 := Hp.le_trans hl36 hl7
                  have hl13' := Hp.le_trans hl13 hl37
                  have hf7 := hf3.mono hl37
                  have hC7 := hC3.mono hl37
                  have hks0 := (he3.mono hl37).ks
                  have hkc := he.kc
                  have hkb := he.kb
                  obtain ⟨m8, hmm⟩ : ∃ m, m = min e.kn 8 := ⟨_, rfl⟩
                  have hm8 : (min (e.kn : Int) 8).toNat = m8 := by omega
                  have hks := hks0.take (hi' := m8) (by omega)
                  refine tc_seq ?_
                  refine tc_cut_k R [(2, _), (3, _), (7, _), (9, _), (10, _), (11, _), (31, _), (32, _), (33, _)] (fun (ζ : (Hp) × (DK) × (DS) × (Nat) × (Held)) => [(5, .pointer (some ⟨ζ.2.2.2.1, 0, none⟩))]) (fun (ζ : (Hp) × (DK) × (DS) × (Nat) × (Held)) => ζ.1) (fun (ζ : (Hp) × (DK) × (DS) × (Nat) × (Held)) => [[(b11, .cells ⟨pgV ⟨v1, (cc, e.lsn)⟩⟩ 84 (0, 0))], [(b9, .cells ⟨deedC e⟩ 87 (0, 0))], [(b7, .cells ⟨arrV p2⟩ 85 (0, 0))]] ++ diskK db ζ.2.1 ζ.2.2.1) (fun (ζ : (Hp) × (DK) × (DS) × (Nat) × (Held)) => ρ7.le ζ.1 ∧ FIn ζ.1 ζ.2.2.2.1 db 4 ∧ DOk ζ.2.1 ζ.2.2.1 ∧ ζ.2.2.1.Calm ∧ FO ζ.2.2.1 4 (j + 1) (upd (fun z => (p2 z).h) q ζ.2.2.2.2) ∧ (ζ.2.2.2.2 = (p2 q).h ∨ ζ.2.2.2.2 = (cc, e.lsn))) ev_le ?_ ?_
                  · by_cases hz : ec = 0
                    · have hp2 := hp2a hz
                      subst hz
                      have g3 := hw1 rfl
                      have hup : upd (fun z => (p z).h) q (cc, e.lsn) = upd (fun z => (p2 z).h) q (cc, e.lsn) := by
                        rw [hp2]; funext z; unfold upd updP; by_cases h : z = q <;> simp [h]
                      rw [hup] at g3
                      by_cases hkn : e.kn = 0
                      · have hkz : ¬ (e.kn : Int) > 0 := by omega
                        have g4 := (g3.arm (-1) (by omega)).1
                        repeat' (first | (refine tl_is (.func 18) ?_; refine qC rfl rfl (karm14 _ db k3 D3 hk3 (-1) g3 (by omega)) ?_; rintro v ρ' L' hle ⟨rfl, rfl, hk7, rfl⟩ <;> (try simp only [List.cons_append, List.nil_append, List.append_eq])) | (refine tl_is (.func 19) ?_; refine qC rfl rfl (kfail14 _ db k3 _ hk7 (-1) g4 (by omega)) ?_; rintro v ρ' L' hle ⟨rfl, rfl, hk8, rfl⟩ <;> (try simp only [List.cons_append, List.nil_append, List.append_eq])) | (refine i_op ?_; first | (refine i_qq ?_; refine qQ ?_) | refine qEf ?_) | refine tl_nil ?_ | (refine i_tc ?_; refine qTc ?_) | (refine i_te ?_; refine qTe ?_) | intro _)
                        refine te_cut_g ((_, k3, ((D3.arm (-1)).1.fail (-1)).1, fb0, (cc, e.lsn))) (⟨Hp.le_refl _, hf7, hk8, calm_off D3 g3.alive, (g4.fail (-1) (by omega)).1, .inr rfl⟩) ev_le ev_le rfl tk inferInstance
                      · have hkz : (e.kn : Int) > 0 := by omega
                        have g4 := g3.crash (keepB ((e.ks.take m8).take 60))
                        have hlen8 := g4.len
                        repeat' (first | (simp only [hm8]; refine tl_is (.func 22) ?_; refine qC rfl rfl (kcrash _ db k3 D3 hk3 e.ka m8 e.kp (e.ks.take m8) hks (by omega) (by omega)) ?_; rintro v8 ρ8 L8 hle8 ⟨rfl, hl8, k8, hk8, rfl⟩; try simp only [List.cons_append, List.nil_append, List.append_assoc, List.append_eq]) | (refine tl_is (.func 29) ?_; refine qC rfl rfl (Open_spec _ db k8 _ hk8 4 hlen8) ?_; rintro v9 ρ9 L9 hle9 ⟨hl9, fb9, rfl, hF9, rfl⟩; try simp only [List.cons_append, List.nil_append, List.append_assoc, List.append_eq]) | (refine i_op ?_; first | (refine i_qq ?_; refine qQ ?_) | refine qEf ?_) | refine tl_nil ?_ | (refine i_tc ?_; refine qTc ?_) | (refine i_te ?_; refine qTe ?_) | intro _)
                        refine te_cut_g ((_, k8, D3.crash (keepB ((e.ks.take m8).take 60)), fb9, (cc, e.lsn))) (⟨Hp.le_trans hl8 hl9, hF9, hk8, crash_calm _ _, g4, .inr rfl⟩) ev_le ev_le rfl tk inferInstance
                    · have hp2 := hp2b hz
                      obtain ⟨v, hv, g4⟩ := hw2 (keepB ((e.ks.take m8).take 60))
                      rw [← hp2] at g4 hv
                      have hlen8 := g4.len
                      have hzb : (ec != 0) = true := by simpa using hz
                      repeat' (first | (simp only [hm8]; refine tl_is (.func 22) ?_; refine qC rfl rfl (kcrash _ db k3 D3 hk3 e.ka m8 e.kp (e.ks.take m8) hks (by omega) (by omega)) ?_; rintro v8 ρ8 L8 hle8 ⟨rfl, hl8, k8, hk8, rfl⟩; try simp only [List.cons_append, List.nil_append, List.append_assoc, List.append_eq]) | (refine tl_is (.func 29) ?_; refine qC rfl rfl (Open_spec _ db k8 _ hk8 4 hlen8) ?_; rintro v9 ρ9 L9 hle9 ⟨hl9, fb9, rfl, hF9, rfl⟩; try simp only [List.cons_append, List.nil_append, List.append_assoc, List.append_eq]) | (refine i_op ?_; first | (refine i_qq ?_; refine qQ ?_) | refine qEf ?_) | refine tl_nil ?_ | (refine i_tc ?_; refine qTc ?_) | (refine i_te ?_; refine qTe ?_) | intro _)
                      refine te_cut_g ((_, k8, D3.crash (keepB ((e.ks.take m8).take 60)), fb9, v)) (⟨Hp.le_trans hl8 hl9, hF9, hk8, crash_calm _ _, g4, hv⟩) ev_le ev_le rfl tk inferInstance
                  · rintro ⟨ρ8, k4, D4, fb2, v⟩ ⟨hl8, hf8, hk4, c4, g4, hv⟩
                    simp only [List.cons_append, List.nil_append] at hl8 hf8 hk4 c4 g4 hv ⊢
                    have hpc8 : ∀ z, CIn ρ8 (p2 z).w (p2 z).h.1.rows (p2 z).h.1.kids := fun z => (hpc7 z).mono hl8
                    have hC8 := hC7.mono hl8
                    have hl18 := Hp.le_trans hl13' hl8
                    clear hw1 hw2 hw3 hwr hk2 g2
                    refine tc_seq ?_
                    refine tc_cut_k R [(2, _), (3, _), (5, _), (7, _), (31, _), (32, _), (33, _)] (fun (ζ : (Hp) × (Nat → Pg) × (DS)) => []) (fun (ζ : (Hp) × (Nat → Pg) × (DS)) => ζ.1) (fun (ζ : (Hp) × (Nat → Pg) × (DS)) => [[(b7, .cells ⟨arrV ζ.2.1⟩ 85 (0, 0))]] ++ diskK db k4 ζ.2.2) (fun (ζ : (Hp) × (Nat → Pg) × (DS)) => ρ8.le ζ.1 ∧ DOk k4 ζ.2.2 ∧ ζ.2.2.Calm ∧ FO ζ.2.2 4 (j + 1) (fun z => (ζ.2.1 z).h) ∧ (∀ z, CIn ζ.1 (ζ.2.1 z).w (ζ.2.1 z).h.1.rows (ζ.2.1 z).h.1.kids)) ev_le ?_ ?_
                    · by_cases hvv : v = (p2 q).h
                      · have hus : upd (fun z => (p2 z).h) q v = fun z => (p2 z).h := by
                          rw [hvv]; funext z; unfold upd
                          split
                          · rename_i h; rw [h]
                          · rfl
                        rw [hus] at g4
                        have hqc : q = 0 ∨ q = 1 ∨ q = 2 ∨ q = 3 := by omega
                        rcases hqc with rfl | rfl | rfl | rfl
                        · repeat' (first | (refine tl_is (.func 37) ?_; refine qC rfl rfl (is14_yes _ (p2 0) (hpc8 0) fb2 db 0 (j + 1) hf8 (by omega) k4 D4 hk4 _ g4 c4 rfl) ?_; rintro va ρa La hlea ⟨rfl, hla, Da, hka, ga, ca, rfl⟩; try simp only [List.cons_append, List.nil_append, List.append_assoc, List.append_eq]) | (refine tl_y (y_load_sub (off := 0) (n := 4) rfl) rfl rfl ?_) | (refine i_op ?_; first | (refine i_qq ?_; refine qQ ?_) | refine qEf ?_) | refine tl_nil ?_ | (refine i_tc ?_; refine qTc ?_) | (refine i_te ?_; refine qTe ?_) | intro _)
                          refine te_cut_g ((_, p2, Da)) (⟨hla, hka, ca, ga, fun z => (hpc8 z).mono hla⟩) ev_le ev_le rfl tk inferInstance
                        · repeat' (first | (refine tl_is (.func 37) ?_; refine qC rfl rfl (is14_yes _ (p2 1) (hpc8 1) fb2 db 1 (j + 1) hf8 (by omega) k4 D4 hk4 _ g4 c4 rfl) ?_; rintro va ρa La hlea ⟨rfl, hla, Da, hka, ga, ca, rfl⟩; try simp only [List.cons_append, List.nil_append, List.append_assoc, List.append_eq]) | (refine i_op ?_; first | (refine i_qq ?_; refine qQ ?_) | refine qEf ?_) | refine tl_nil ?_ | (refine i_tc ?_; refine qTc ?_) | (refine i_te ?_; refine qTe ?_) | intro _)
                          refine te_cut_g ((_, p2, Da)) (⟨hla, hka, ca, ga, fun z => (hpc8 z).mono hla⟩) ev_le ev_le rfl tk inferInstance
                        · repeat' (first | (refine tl_is (.func 37) ?_; refine qC rfl rfl (is14_yes _ (p2 2) (hpc8 2) fb2 db 2 (j + 1) hf8 (by omega) k4 D4 hk4 _ g4 c4 rfl) ?_; rintro va ρa La hlea ⟨rfl, hla, Da, hka, ga, ca, rfl⟩; try simp only [List.cons_append, List.nil_append, List.append_assoc, List.append_eq]) | (refine i_op ?_; first | (refine i_qq ?_; refine qQ ?_) | refine qEf ?_) | refine tl_nil ?_ | (refine i_tc ?_; refine qTc ?_) | (refine i_te ?_; refine qTe ?_) | intro _)
                          refine te_cut_g ((_, p2, Da)) (⟨hla, hka, ca, ga, fun z => (hpc8 z).mono hla⟩) ev_le ev_le rfl tk inferInstance
                        · repeat' (first | (refine tl_is (.func 37) ?_; refine qC rfl rfl (is14_yes _ (p2 3) (hpc8 3) fb2 db 3 (j + 1) hf8 (by omega) k4 D4 hk4 _ g4 c4 rfl) ?_; rintro va ρa La hlea ⟨rfl, hla, Da, hka, ga, ca, rfl⟩; try simp only [List.cons_append, List.nil_append, List.append_assoc, List.append_eq]) | (refine i_op ?_; first | (refine i_qq ?_; refine qQ ?_) | refine qEf ?_) | refine tl_nil ?_ | (refine i_tc ?_; refine qTc ?_) | (refine i_te ?_; refine qTe ?_) | intro _)
                          refine te_cut_g ((_, p2, Da)) (⟨hla, hka, ca, ga, fun z => (hpc8 z).mono hla⟩) ev_le ev_le rfl tk inferInstance
                      · have hvn := hv.resolve_left hvv
                        subst hvn
                        have hqc : q = 0 ∨ q = 1 ∨ q = 2 ∨ q = 3 := by omega
                        rcases hqc with rfl | rfl | rfl | rfl
                        · have hno : ¬ upd (fun z => (p2 z).h) 0 (cc, e.lsn) 0 = (p2 0).h := fun h => hvv (by rw [← h]; unfold upd; simp)
                          have hi1 := fun ρ h1 h2 => is14_spec ρ (p2 0) h1 fb2 db 0 (j + 1) h2 (by omega) k4 D4 hk4 _ g4 c4
                          rw [decide_eq_false hno] at hi1
                          repeat' (first | (refine tl_is (.func 37) ?_; refine qC rfl rfl (hi1 _ (hpc8 0) hf8) ?_; rintro va ρa La hlea ⟨rfl, hla, Da, hka, ga, ca, rfl⟩; try simp only [List.cons_append, List.nil_append, List.append_assoc, List.append_eq]) | (refine tl_y (y_load_sub (off := 0) (n := 4) rfl) rfl rfl ?_) | (refine i_op ?_; first | (refine i_qq ?_; refine qQ ?_) | refine qEf ?_) | refine tl_nil ?_ | (refine i_tc ?_; refine qTc ?_) | (refine i_te ?_; refine qTe ?_) | intro _)
                          have hy : upd (fun z => (p2 z).h) 0 (cc, e.lsn) 0 = (cc, e.lsn) := by unfold upd; simp
                          repeat' (first | (refine tl_is (.func 37) ?_; refine qC rfl rfl (is14_yes _ ⟨v1, (cc, e.lsn)⟩ (hC8.mono hla) fb2 db 0 (j + 1) (hf8.mono hla) (by omega) k4 Da hka _ ga ca hy) ?_; rintro vb ρb Lb hleb ⟨rfl, hlb, Db, hkb, gb, cb, rfl⟩; try simp only [List.cons_append, List.nil_append, List.append_assoc, List.append_eq]) | (refine i_op ?_; first | (refine i_qq ?_; refine qQ ?_) | refine qEf ?_) | refine tl_nil ?_ | (refine i_tc ?_; refine qTc ?_) | (refine i_te ?_; refine qTe ?_) | intro _)
                          have hlab := Hp.le_trans hla hlb
                          rw [upd_held p2 0 ⟨v1, (cc, e.lsn)⟩] at gb
                          have hp9 := updP_in (n := 0) (v := ⟨v1, (cc, e.lsn)⟩) (fun z => (hpc8 z).mono hlab) (hC8.mono hlab)
                          show TE _ _ _ _ _ (diskK db k4 Db ++ ([(b11, _)] :: [(b9, _)] :: [(b7, .cells ⟨arrV (updP p2 0 ⟨v1, (cc, e.lsn)⟩)⟩ 85 (0, 0))] :: R))
                          refine te_cut_g ((_, updP p2 0 ⟨v1, (cc, e.lsn)⟩, Db)) (⟨hlab, hkb, cb, gb, hp9⟩) ev_le ev_le rfl tk inferInstance
                        · have hno : ¬ upd (fun z => (p2 z).h) 1 (cc, e.lsn) 1 = (p2 1).h := fun h => hvv (by rw [← h]; unfold upd; simp)
                          have hi1 := fun ρ h1 h2 => is14_spec ρ (p2 1) h1 fb2 db 1 (j + 1) h2 (by omega) k4 D4 hk4 _ g4 c4
                          rw [decide_eq_false hno] at hi1
                          repeat' (first | (refine tl_is (.func 37) ?_; refine qC rfl rfl (hi1 _ (hpc8 1) hf8) ?_; rintro va ρa La hlea ⟨rfl, hla, Da, hka, ga, ca, rfl⟩; try simp only [List.cons_append, List.nil_append, List.append_assoc, List.append_eq]) | (refine i_op ?_; first | (refine i_qq ?_; refine qQ ?_) | refine qEf ?_) | refine tl_nil ?_ | (refine i_tc ?_; refine qTc ?_) | (refine i_te ?_; refine qTe ?_) | intro _)
                          have hy : upd (fun z => (p2 z).h) 1 (cc, e.lsn) 1 = (cc, e.lsn) := by unfold upd; simp
                          repeat' (first | (refine tl_is (.func 37) ?_; refine qC rfl rfl (is14_yes _ ⟨v1, (cc, e.lsn)⟩ (hC8.mono hla) fb2 db 1 (j + 1) (hf8.mono hla) (by omega) k4 Da hka _ ga ca hy) ?_; rintro vb ρb Lb hleb ⟨rfl, hlb, Db, hkb, gb, cb, rfl⟩; try simp only [List.cons_append, List.nil_append, List.append_assoc, List.append_eq]) | (refine i_op ?_; first | (refine i_qq ?_; refine qQ ?_) | refine qEf ?_) | refine tl_nil ?_ | (refine i_tc ?_; refine qTc ?_) | (refine i_te ?_; refine qTe ?_) | intro _)
                          have hlab := Hp.le_trans hla hlb
                          rw [upd_held p2 1 ⟨v1, (cc, e.lsn)⟩] at gb
                          have hp9 := updP_in (n := 1) (v := ⟨v1, (cc, e.lsn)⟩) (fun z => (hpc8 z).mono hlab) (hC8.mono hlab)
                          show TE _ _ _ _ _ (diskK db k4 Db ++ ([(b11, _)] :: [(b9, _)] :: [(b7, .cells ⟨arrV (updP p2 1 ⟨v1, (cc, e.lsn)⟩)⟩ 85 (0, 0))] :: R))
                          refine te_cut_g ((_, updP p2 1 ⟨v1, (cc, e.lsn)⟩, Db)) (⟨hlab, hkb, cb, gb, hp9⟩) ev_le ev_le rfl tk inferInstance
                        · have hno : ¬ upd (fun z => (p2 z).h) 2 (cc, e.lsn) 2 = (p2 2).h := fun h => hvv (by rw [← h]; unfold upd; simp)
                          have hi1 := fun ρ h1 h2 => is14_spec ρ (p2 2) h1 fb2 db 2 (j + 1) h2 (by omega) k4 D4 hk4 _ g4 c4
                          rw [decide_eq_false hno] at hi1
                          repeat' (first | (refine tl_is (.func 37) ?_; refine qC rfl rfl (hi1 _ (hpc8 2) hf8) ?_; rintro va ρa La hlea ⟨rfl, hla, Da, hka, ga, ca, rfl⟩; try simp only [List.cons_append, List.nil_append, List.append_assoc, List.append_eq]) | (refine i_op ?_; first | (refine i_qq ?_; refine qQ ?_) | refine qEf ?_) | refine tl_nil ?_ | (refine i_tc ?_; refine qTc ?_) | (refine i_te ?_; refine qTe ?_) | intro _)
                          have hy : upd (fun z => (p2 z).h) 2 (cc, e.lsn) 2 = (cc, e.lsn) := by unfold upd; simp
                          repeat' (first | (refine tl_is (.func 37) ?_; refine qC rfl rfl (is14_yes _ ⟨v1, (cc, e.lsn)⟩ (hC8.mono hla) fb2 db 2 (j + 1) (hf8.mono hla) (by omega) k4 Da hka _ ga ca hy) ?_; rintro vb ρb Lb hleb ⟨rfl, hlb, Db, hkb, gb, cb, rfl⟩; try simp only [List.cons_append, List.nil_append, List.append_assoc, List.append_eq]) | (refine i_op ?_; first | (refine i_qq ?_; refine qQ ?_) | refine qEf ?_) | refine tl_nil ?_ | (refine i_tc ?_; refine qTc ?_) | (refine i_te ?_; refine qTe ?_) | intro _)
                          have hlab := Hp.le_trans hla hlb
                          rw [upd_held p2 2 ⟨v1, (cc, e.lsn)⟩] at gb
                          have hp9 := updP_in (n := 2) (v := ⟨v1, (cc, e.lsn)⟩) (fun z => (hpc8 z).mono hlab) (hC8.mono hlab)
                          show TE _ _ _ _ _ (diskK db k4 Db ++ ([(b11, _)] :: [(b9, _)] :: [(b7, .cells ⟨arrV (updP p2 2 ⟨v1, (cc, e.lsn)⟩)⟩ 85 (0, 0))] :: R))
                          refine te_cut_g ((_, updP p2 2 ⟨v1, (cc, e.lsn)⟩, Db)) (⟨hlab, hkb, cb, gb, hp9⟩) ev_le ev_le rfl tk inferInstance
                        · have hno : ¬ upd (fun z => (p2 z).h) 3 (cc, e.lsn) 3 = (p2 3).h := fun h => hvv (by rw [← h]; unfold upd; simp)
                          have hi1 := fun ρ h1 h2 => is14_spec ρ (p2 3) h1 fb2 db 3 (j + 1) h2 (by omega) k4 D4 hk4 _ g4 c4
                          rw [decide_eq_false hno] at hi1
                          repeat' (first | (refine tl_is (.func 37) ?_; refine qC rfl rfl (hi1 _ (hpc8 3) hf8) ?_; rintro va ρa La hlea ⟨rfl, hla, Da, hka, ga, ca, rfl⟩; try simp only [List.cons_append, List.nil_append, List.append_assoc, List.append_eq]) | (refine i_op ?_; first | (refine i_qq ?_; refine qQ ?_) | refine qEf ?_) | refine tl_nil ?_ | (refine i_tc ?_; refine qTc ?_) | (refine i_te ?_; refine qTe ?_) | intro _)
                          have hy : upd (fun z => (p2 z).h) 3 (cc, e.lsn) 3 = (cc, e.lsn) := by unfold upd; simp
                          repeat' (first | (refine tl_is (.func 37) ?_; refine qC rfl rfl (is14_yes _ ⟨v1, (cc, e.lsn)⟩ (hC8.mono hla) fb2 db 3 (j + 1) (hf8.mono hla) (by omega) k4 Da hka _ ga ca hy) ?_; rintro vb ρb Lb hleb ⟨rfl, hlb, Db, hkb, gb, cb, rfl⟩; try simp only [List.cons_append, List.nil_append, List.append_assoc, List.append_eq]) | (refine i_op ?_; first | (refine i_qq ?_; refine qQ ?_) | refine qEf ?_) | refine tl_nil ?_ | (refine i_tc ?_; refine qTc ?_) | (refine i_te ?_; refine qTe ?_) | intro _)
                          have hlab := Hp.le_trans hla hlb
                          rw [upd_held p2 3 ⟨v1, (cc, e.lsn)⟩] at gb
                          have hp9 := updP_in (n := 3) (v := ⟨v1, (cc, e.lsn)⟩) (fun z => (hpc8 z).mono hlab) (hC8.mono hlab)
                          show TE _ _ _ _ _ (diskK db k4 Db ++ ([(b11, _)] :: [(b9, _)] :: [(b7, .cells ⟨arrV (updP p2 3 ⟨v1, (cc, e.lsn)⟩)⟩ 85 (0, 0))] :: R))
                          refine te_cut_g ((_, updP p2 3 ⟨v1, (cc, e.lsn)⟩, Db)) (⟨hlab, hkb, cb, gb, hp9⟩) ev_le ev_le rfl tk inferInstance
                    · rintro ⟨ρ9, p3, D5⟩ ⟨hl9, hk5, c5, g5, hpc9⟩
                      simp only [List.cons_append, List.nil_append] at hl9 hk5 c5 g5 hpc9 ⊢
                      repeat' (first | (refine i_op ?_; first | (refine i_qq ?_; refine qQ ?_) | refine qEf ?_) | refine tl_nil ?_ | (refine i_tc ?_; refine qTc ?_) | (refine i_te ?_; refine qTe ?_) | intro _)
                      refine tc_loop_g [(3, _), (5, _), (7, _), (31, _), (32, _), (33, _)] (fun (ζ : (Nat) × (Hp) × (DS)) => [(139, .int .i64 ζ.1), (2, .bool false)]) (fun (ζ : (Nat) × (Hp) × (DS)) => ζ.2.1) (fun (ζ : (Nat) × (Hp) × (DS)) => [[(b7, .cells ⟨arrV p3⟩ 85 (0, 0))]] ++ diskK db k4 ζ.2.2) (fun (ζ : (Nat) × (Hp) × (DS)) => ζ.1 ≤ 4 ∧ ρ1.le ζ.2.1 ∧ FIn ζ.2.1 fb2 db 4 ∧ (∀ z, CIn ζ.2.1 (p3 z).w (p3 z).h.1.rows (p3 z).h.1.kids) ∧ DOk k4 ζ.2.2 ∧ FO ζ.2.2 4 (j + 1) (fun z => (p3 z).h) ∧ ζ.2.2.Calm) (fun (ζ : (Nat) × (Hp) × (DS)) => 4 - ζ.1) ((0, ρ9, D5)) (⟨by omega, Hp.le_trans hl18 hl9, hf8.mono hl9, hpc9, hk5, g5, c5⟩) ev_le ev_le rfl tk ?_
                      rintro ⟨i, ρ7, Da⟩ hI
                      try simp only [List.cons_append, List.nil_append, List.append_assoc, List.append_eq] at hI ⊢
                      try dsimp only at hI ⊢
                      obtain ⟨hi4, hl7', hF7, hp7, hka, ga, ca⟩ := hI
                      by_cases hil : i < 4
                      · have hic : i = 0 ∨ i = 1 ∨ i = 2 ∨ i = 3 := by omega
                        rcases hic with rfl | rfl | rfl | rfl
                        · repeat' (first | (refine tl_is (.func 37) ?_; refine qC rfl rfl (is14_yes _ (p3 0) (hp7 0) fb2 db 0 (j + 1) hF7 (by omega) k4 Da hka _ ga ca rfl) ?_; rintro v8 ρ8 L8 hle8 ⟨rfl, hl8x, Da2, hka2, ga2, ca2, rfl⟩; try simp only [List.cons_append, List.nil_append, List.append_assoc, List.append_eq]) | (refine tl_y (y_load_sub (off := 0) (n := 4) rfl) rfl rfl ?_) | (refine i_op ?_; first | (refine i_qq ?_; refine qQ ?_) | refine qEf ?_) | refine tl_nil ?_ | (refine i_tc ?_; refine qTc ?_) | (refine i_te ?_; refine qTe ?_) | intro _)
                          refine te_round_g (1, _, Da2) (⟨by omega, Hp.le_trans hl7' hl8x, hF7.mono hl8x, fun z => (hp7 z).mono hl8x, hka2, ga2, ca2⟩) ev_le ev_le rfl tk inferInstance (by first | omega | (dsimp only; omega))
                        · repeat' (first | (refine tl_is (.func 37) ?_; refine qC rfl rfl (is14_yes _ (p3 1) (hp7 1) fb2 db 1 (j + 1) hF7 (by omega) k4 Da hka _ ga ca rfl) ?_; rintro v8 ρ8 L8 hle8 ⟨rfl, hl8x, Da2, hka2, ga2, ca2, rfl⟩; try simp only [List.cons_append, List.nil_append, List.append_assoc, List.append_eq]) | (refine i_op ?_; first | (refine i_qq ?_; refine qQ ?_) | refine qEf ?_) | refine tl_nil ?_ | (refine i_tc ?_; refine qTc ?_) | (refine i_te ?_; refine qTe ?_) | intro _)
                          refine te_round_g (2, _, Da2) (⟨by omega, Hp.le_trans hl7' hl8x, hF7.mono hl8x, fun z => (hp7 z).mono hl8x, hka2, ga2, ca2⟩) ev_le ev_le rfl tk inferInstance (by first | omega | (dsimp only; omega))
                        · repeat' (first | (refine tl_is (.func 37) ?_; refine qC rfl rfl (is14_yes _ (p3 2) (hp7 2) fb2 db 2 (j + 1) hF7 (by omega) k4 Da hka _ ga ca rfl) ?_; rintro v8 ρ8 L8 hle8 ⟨rfl, hl8x, Da2, hka2, ga2, ca2, rfl⟩; try simp only [List.cons_append, List.nil_append, List.append_assoc, List.append_eq]) | (refine i_op ?_; first | (refine i_qq ?_; refine qQ ?_) | refine qEf ?_) | refine tl_nil ?_ | (refine i_tc ?_; refine qTc ?_) | (refine i_te ?_; refine qTe ?_) | intro _)
                          refine te_round_g (3, _, Da2) (⟨by omega, Hp.le_trans hl7' hl8x, hF7.mono hl8x, fun z => (hp7 z).mono hl8x, hka2, ga2, ca2⟩) ev_le ev_le rfl tk inferInstance (by first | omega | (dsimp only; omega))
                        · repeat' (first | (refine tl_is (.func 37) ?_; refine qC rfl rfl (is14_yes _ (p3 3) (hp7 3) fb2 db 3 (j + 1) hF7 (by omega) k4 Da hka _ ga ca rfl) ?_; rintro v8 ρ8 L8 hle8 ⟨rfl, hl8x, Da2, hka2, ga2, ca2, rfl⟩; try simp only [List.cons_append, List.nil_append, List.append_assoc, List.append_eq]) | (refine i_op ?_; first | (refine i_qq ?_; refine qQ ?_) | refine qEf ?_) | refine tl_nil ?_ | (refine i_tc ?_; refine qTc ?_) | (refine i_te ?_; refine qTe ?_) | intro _)
                          refine te_round_g (4, _, Da2) (⟨by omega, Hp.le_trans hl7' hl8x, hF7.mono hl8x, fun z => (hp7 z).mono hl8x, hka2, ga2, ca2⟩) ev_le ev_le rfl tk inferInstance (by first | omega | (dsimp only; omega))
                      · repeat' (first | (refine i_op ?_; first | (refine i_qq ?_; refine qQ ?_) | refine qEf ?_) | refine tl_nil ?_ | (refine i_tc ?_; refine qTc ?_) | (refine i_te ?_; refine qTe ?_) | intro _)
                        refine te_round_g (j + 1, _, fb2, p3, k4, Da) (⟨⟨hlt, by omega⟩, hl7', hF7, hka, ga, hp7⟩) ev_le ev_le rfl tk inferInstance (by first | omega | (dsimp only; omega))
  · repeat' (first | (refine i_op ?_; first | (refine i_qq ?_; refine qQ ?_) | refine qEf ?_) | refine tl_nil ?_ | (refine i_tc ?_; refine qTc ?_) | (refine i_te ?_; refine qTe ?_) | intro _)
    exact qE (L' := []) ⟨rfl, hlm, rfl⟩
end Go.Proofs.E

namespace Go.Proofs.Ytncenainkaofmaa.FileLastsLaw
open Go Go.ChangeShapes Go.WideShapes Go.ChangeAt Go.RowKit Go.Proofs.E
set_option linter.unusedVariables false

theorem own : ownKnob Try.prog.godebug = none := by kernel_rfl
theorem laidOut : laidOutB Try.prog = true := by kernel_rfl

set_option maxRecDepth 100000 in
theorem lifted (os : Os) (started : os.Started) (H : Type) (enc : TypeId × Value → H) :
    ReturnsInHanded {} Try.checked os 8 .any (Rows.fileLastsSpec.pre6 enc Try.prog Try.f8 Rows.fileLastsRow.domain false) (Rows.fileLastsSpec.post enc Try.prog Try.f8 false true false false) := by
  refine returnsInHanded_of_change_sized (C := Try.checked) own started (by kernel_rfl) Try.func8
    (ChangeSpec.witness6 (enc := enc) (C := Try.checked) false ⟨#[], #[.slice none 0 0], []⟩ 8 (by kernel_rfl) (by kernel_rfl) (by kernel_rfl) (by kernel_rfl)) ?_
  intro W base args ds gs before hval0 hW hcnd hsz0 _
  have hval : ∀ (j : Nat) t v, Try.f8.params[j]? = some t → args[j]? = some v → Value.okWide Try.prog W .any base t v := hval0
  have hW' := hW
  obtain ⟨p, q, hA0, hV, rfl, hfz, hnd⟩ := hW
  have hA : DataW.TrodAll enc Try.prog W 0 (fun _ => true) true Try.f8.params.toList args.toList ds p := hA0
  have hsz : (DataW.weightsEach Try.prog (Try.f8.params.toList ++ Rows.fileLastsSpec.plain.varTypes Try.prog) (ds ++ gs)).all (· ≤ reachBytes) = true := hsz0
  rw [Try.params8] at hA hval hsz
  obtain ⟨v0, vs0, d0, ds0, p0, q0, hargs, rfl, rfl, h0, r0⟩ := trodAll_cons hA
  obtain ⟨rfl, rfl, rfl⟩ := trodAll_nil r0
  obtain rfl : args = #[v0] := by cases args; simp_all
  obtain ⟨rfl, rfl⟩ := trodVars_none hV
  have k0 := h0
  have lt0 : ∀ x ∈ p0, x.block < W.heap.size := by obtain ⟨m, hm⟩ := k0; exact DataW.trod_lt m _ _ _ hm
  obtain ⟨a0, n0, c0, rfl⟩ := okWide_slice Try.underlying82 (hval 0 82 v0 rfl rfl)
  have b0 := top_slice hsz (j := 0) rfl rfl Try.underlying82 k0 rfl
  have bb0 : Try.prog.bytesOf 87 = 112 := by kernel_rfl
  rw [bb0] at b0
  simp only [reachBytes] at b0
  obtain ⟨s0, e0⟩ := (opn_slice (sz := 8) Try.underlying82 (by kernel_rfl) (by decide) opn_deed) _ _ _ h0.choose_spec
  obtain ⟨⟨y0, m0, z0, x0⟩, ec0⟩ : ∃ s, s = s0 := ⟨s0, rfl⟩
  subst ec0
  have ec0 := e0.cells
  simp only [Value.cells, List.cons.injEq, Value.slice.injEq, and_true] at ec0
  obtain ⟨rfl, rfl, rfl⟩ := ec0
  clear hA0 hval0
  obtain ⟨hA0, hP0, hc0, hb0⟩ := aIn_ofK (g := deedC) (P := DeedIn (hpOf W)) (fun x => rfl) e0
  refine (Spec.law (lasts14_spec (hpOf W) a0 n0 c0 x0 hA0 hP0 hb0)).mono fun e W' ⟨he, bel⟩ => ?_
  subst he
  exact ⟨_, rfl, _, _, _, [], _, [], hW', trodAll_mk1 (shut_bool Try.underlying4 _), (trodAll_cons_mk (Below.trod laidOut (by kernel_rfl) (of_decide_eq_true (by kernel_rfl)) k0 bel lt0) trodAll_mk0), rfl, bel.frame _, fun h => by cases h⟩

theorem over : Rows.fileLastsRow.holds Try.pinned (OpenSpec.ofChange Rows.fileLastsSpec) :=
  OpenClaim.holds_of_wide 8 Try.f8 rfl rfl rfl rfl rfl rfl rfl ⟨rfl, rfl, rfl, rfl, rfl⟩ rfl rfl rfl rfl rfl (by kernel_rfl) Try.func8 (by kernel_rfl)
    (of_decide_eq_true (by kernel_rfl)) (by unfold Func.isWrapper; first | (rw [if_pos (by decide +kernel)]; kernel_rfl) | (rw [if_neg (by decide +kernel)]; exact ⟨rfl, rfl⟩))
    (fun os started H enc _ => lifted os started H enc)

theorem proved : Rows.FileLastsSaid := over
end Go.Proofs.Ytncenainkaofmaa.FileLastsLaw

