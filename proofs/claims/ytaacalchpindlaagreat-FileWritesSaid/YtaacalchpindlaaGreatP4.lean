/- The law FileWrites. Part 4 of 17. -/
import Derived.Test.YtaacalchpindlaaGreatP3
import Derived.Test.YtaacalchpindlaaGreatChecked
import Derived.KernelRfl
namespace Go.Proofs.E
open Go Go.RowKit
set_option linter.unusedVariables false
set_option linter.unusedSimpArgs false
set_option linter.unusedSectionVars false
set_option maxRecDepth 8000
def reachB (l : List Oper) : Nat → Nat → Nat → Bool
 | 0, _, _ => false
 | f + 1, i, k => ((l[i]?).map fun o => o.after.any fun e => Region.binds .any e && (e.on == k || reachB l f e.on k)).getD false
def guardB (c : Nat) (o : Oper) : Bool := match o.guard with | none => true | some (j, _) => decide (j < c)
def cutB (l : List Oper) (c : Nat) : Bool :=
 decide (c ≤ l.length) && (List.range l.length).all fun i =>
  if i < c then ((l[i]?).map fun o => o.after.all (fun e => !Region.binds .any e || decide (e.on < i)) && guardB c o).getD false
  else (List.range c).all fun k => reachB l 12 i k
def ClosedL (l : List Oper) (m : List Bool) : Prop := ∀ (j : Nat) (o : Oper), l[j]? = some o → m[j]? = some true → ∀ e ∈ o.after, Region.binds .any e = true → m[e.on]? = some true
theorem reach_ok {l : List Oper} {m : List Bool} (hc : ClosedL l m) : ∀ (f i k : Nat) (o : Oper), l[i]? = some o → (∀ e ∈ o.after, Region.binds .any e = true → m[e.on]? = some true) → reachB l f i k = true → m[k]? = some true
 | 0, _, _, _, _, _, h => by simp [reachB] at h
 | f + 1, i, k, o, ho, he, h => by
  simp only [reachB, ho, Option.map_some, Option.getD_some, Array.any_eq_true] at h
  obtain ⟨x, hx, h⟩ := h
  simp only [Bool.and_eq_true, Bool.or_eq_true, beq_iff_eq] at h
  have h1 := he _ (Array.getElem_mem hx) h.1
  rcases h.2 with h2 | h2
  ·rw [← h2]; exact h1
  ·cases ho2 : l[(o.after[x]).on]? with
   | none =>
    cases f with
    | zero => simp [reachB] at h2
    | succ f => simp [reachB, ho2] at h2
   | some o2 => exact reach_ok hc f _ k o2 ho2 (hc _ o2 ho2 h1) h2
theorem wpOpIn_cut {ro : Option Nat} {P : Program} {l : List Oper} {c i : Nat} {Q Q1 : Exit → Act → World → Prop} {K K' : Act → World → Prop} {a : Act} {w : World} (hi : i < c) (hg : ∀ o, l[i]? = some o → guardB c o = true) (hk : ∀ a w, K a w → K' a w)
  (h : wpOpIn (Fw ro) 0 P (l.take c).toArray (QN Q1) i K a w) : wpOpIn (Fw ro) 0 P l.toArray (QN Q) i K' a w := by
 unfold wpOpIn at h ⊢
 simp only [List.getElem?_toArray] at h ⊢
 rw [List.getElem?_take_of_lt hi] at h
 cases ho : l[i]? with
 | none => rw [ho] at h; exact hk _ _ h
 | some o =>
  rw [ho] at h
  simp only at h ⊢
  have hgo := hg o ho
  have hy : Region.wanted o (yielded (l.take c).toArray a.tmps) = Region.wanted o (yielded l.toArray a.tmps) := by
   unfold Region.wanted
   unfold guardB at hgo
   cases hgd : o.guard with
   | none => rfl
   | some jb =>
    obtain ⟨j, b⟩ := jb
    rw [hgd] at hgo
    simp only [decide_eq_true_eq] at hgo
    simp only [yielded, List.getElem?_toArray, List.getElem?_take_of_lt hgo]
  rw [hy] at h
  by_cases hw : Region.wanted o (yielded l.toArray a.tmps) = true
  ·simp only [hw, if_true] at h ⊢
   unfold Oper.wpIn at h ⊢
   refine ⟨h.1, ?_⟩
   have h2 := h.2
   generalize (o.semAt (Fw ro).round a.eval).run P w = r at *
   cases r with
   | ok n w' =>
    cases n <;> simp only [Oper.uponIn] at h2 ⊢ <;>
    first
     | exact hk _ _ h2
     | exact ⟨h2.1, CallsIn.mono h2.2 (fun e w'' he => by cases e <;> first | exact hk _ _ he | exact he.elim | exact (let ⟨_, _, q⟩ := he; q.elim))⟩
     | exact ⟨h2.1, RowsIn.mono h2.2 (fun _ _ he => hk _ _ he)⟩
     | exact ⟨h2.1, RoundIn.mono h2.2 (fun e w'' he => by cases e <;> first | exact hk _ _ he | exact he.elim | exact (let ⟨_, _, q⟩ := he; q.elim))⟩
   | halt x w' => cases x <;> simp only [Oper.uponIn] at h2 ⊢ <;> first | exact h2 | exact h2.elim
  ·simp only [hw] at h ⊢
   exact ⟨h.1, hk _ _ h.2⟩
theorem any_cut {ro : Option Nat} {P : Program} {l : List Oper} {c : Nat} {Q : Exit → Act → World → Prop} (hcut : cutB l c = true) :
  ∀ (fuel : Nat) (m : List Bool) (a : Act) (w : World), m.length = c → ClosedL l m → List.count false m = fuel →
   wpAnyIn (Fw ro) 0 P .any (l.take c).toArray (QN fun e a w => wpAnyIn (Fw ro) 0 P .any l.toArray (QN Q) (l.length - c) ⟨List.replicate c true ++ List.replicate (l.length - c) false⟩ a w) fuel ⟨m⟩ a w →
   wpAnyIn (Fw ro) 0 P .any l.toArray (QN Q) (fuel + (l.length - c)) ⟨m ++ List.replicate (l.length - c) false⟩ a w := by
 simp only [cutB, Bool.and_eq_true, decide_eq_true_eq, List.all_eq_true, List.mem_range] at hcut
 obtain ⟨hcl, hall⟩ := hcut
 intro fuel
 induction fuel with
 | zero =>
  intro m a w hm _ h0 H
  have hmt : m = List.replicate c true := by
   rw [List.eq_replicate_iff]
   refine ⟨hm, fun b hb => ?_⟩
   cases b with
   | true => rfl
   | false => exact absurd hb (List.count_eq_zero.1 h0)
  rw [Nat.zero_add, hmt]
  exact H.2
 | succ fuel ih =>
  intro m a w hm hcd h0 H
  have hA : fuel + 1 + (l.length - c) = (fuel + (l.length - c)) + 1 := by omega
  rw [hA]
  have hget : ∀ j, j < c → (m ++ List.replicate (l.length - c) false)[j]? = m[j]? := fun j hj => List.getElem?_append_left (by omega)
  have hge : ∀ j, c ≤ j → (m ++ List.replicate (l.length - c) false)[j]? ≠ some true := fun j hj h => by
   rw [List.getElem?_append_right (by omega)] at h
   rw [List.getElem?_replicate] at h
   split at h <;> simp at h
  have hlt : ∀ j, (m ++ List.replicate (l.length - c) false)[j]? = some true → m[j]? = some true := fun j h => by
   by_cases hj : j < c
   ·rw [hget j hj] at h; exact h
   ·exact absurd h (hge j (by omega))
  have hrd : ∀ i, i ∈ Region.ready .any l.toArray ⟨m ++ List.replicate (l.length - c) false⟩ → i < c ∧ m[i]? = some false ∧ i ∈ Region.ready .any (l.take c).toArray ⟨m⟩ ∧ ∃ o, l[i]? = some o ∧ ∀ e ∈ o.after, Region.binds .any e = true → m[e.on]? = some true := fun i hi => by
   obtain ⟨h1, o, ho, he⟩ := mem_ready.1 hi
   simp only [List.getElem?_toArray] at ho
   have he' : ∀ e ∈ o.after, Region.binds .any e = true → m[e.on]? = some true := fun e h2 h3 => by
    have := he e h2 h3
    apply hlt
    simp only [Array.getD_eq_getD_getElem?, List.getElem?_toArray] at this
    cases hq : (m ++ List.replicate (l.length - c) false)[e.on]? with
    | none => rw [hq] at this; simp at this
    | some b => rw [hq] at this; simp at this; rw [this]
   have hil : i < l.length := by
    rcases Nat.lt_or_ge i l.length with h | h
    ·exact h
    ·rw [List.getElem?_eq_none h] at ho; cases ho
   have hic : i < c := by
    rcases Nat.lt_or_ge i c with h | h
    ·exact h
    ·exfalso
     have hr := hall i hil
     rw [if_neg (by omega)] at hr
     simp only [List.all_eq_true, List.mem_range] at hr
     have hno : false ∉ m := fun hf => by
      obtain ⟨k, hk, hkf⟩ := List.getElem_of_mem hf
      have := reach_ok hcd 12 i k o ho he' (hr k (by omega))
      rw [List.getElem?_eq_getElem hk, hkf] at this
      cases this
     have := List.count_eq_zero.2 hno
     omega
   have hmi : m[i]? = some false := by
    simp only [Array.getD_eq_getD_getElem?, List.getElem?_toArray, hget i hic] at h1
    rw [List.getElem?_eq_getElem (show i < m.length by omega)] at h1 ⊢
    simpa using h1
   refine ⟨hic, hmi, mem_ready.2 ⟨by simp [Array.getD_eq_getD_getElem?, hmi], o, by simp [List.getElem?_take_of_lt hic, ho], fun e h2 h3 => by simp [Array.getD_eq_getD_getElem?, he' e h2 h3]⟩, o, ho, he'⟩
  refine ⟨fun hnil => ?_, fun i hi => ?_⟩
  ·exfalso
   have hmem : false ∈ m := by
    rcases Classical.em (false ∈ m) with h | h
    ·exact h
    ·have := List.count_eq_zero.2 h; omega
   have hex : ∃ k : Nat, m[k]? = some false ∧ ∀ j : Nat, j < k → m[j]? = some true := by
    have key : ∀ (m : List Bool), false ∈ m → ∃ k : Nat, m[k]? = some false ∧ ∀ j : Nat, j < k → m[j]? = some true := by
     intro m
     induction m with
     | nil => intro h; cases h
     | cons b r ih2 =>
      intro h
      cases b with
      | false => exact ⟨0, rfl, fun j hj => by omega⟩
      | true =>
       obtain ⟨k, h1, h2⟩ := ih2 (by simpa using h)
       refine ⟨k + 1, by simpa using h1, fun j hj => ?_⟩
       cases j with
       | zero => rfl
       | succ j => simpa using h2 j (by omega)
    exact key m hmem
   obtain ⟨k, hk, hlow⟩ := hex
   have hkc : k < c := by
    rcases Nat.lt_or_ge k m.length with h | h
    ·omega
    ·rw [List.getElem?_eq_none h] at hk; cases hk
   have hr := hall k (by omega)
   rw [if_pos hkc] at hr
   have hko : l[k]? = some l[k] := List.getElem?_eq_getElem (by omega)
   rw [hko] at hr
   simp only [Option.map_some, Option.getD_some, Bool.and_eq_true, Array.all_eq_true_iff_forall_mem, Bool.or_eq_true, Bool.not_eq_true', decide_eq_true_eq] at hr
   have : k ∈ Region.ready .any l.toArray ⟨m ++ List.replicate (l.length - c) false⟩ := by
    refine mem_ready.2 ⟨by simp [Array.getD_eq_getD_getElem?, hget k hkc, hk], l[k], by simp [hko], fun e h2 h3 => ?_⟩
    have hlt2 : e.on < k := by
     rcases hr.1 e h2 with h | h
     ·rw [h] at h3; cases h3
     ·exact h
    simp [Array.getD_eq_getD_getElem?, hget e.on (by omega), hlow e.on hlt2]
   rw [hnil] at this
   cases this
  ·obtain ⟨hic, hmi, hi1, o, ho, he⟩ := hrd i hi
   have hr := hall i (by omega)
   rw [if_pos hic, ho] at hr
   simp only [Option.map_some, Option.getD_some, Bool.and_eq_true] at hr
   refine wpOpIn_cut hic (fun o' ho' => by rw [ho] at ho'; cases ho'; exact hr.2) (fun a' w' h' => ?_) (H.2 i hi1)
   have hs1 : (⟨m⟩ : Array Bool).setIfInBounds i true = ⟨m.set i true⟩ := by simp
   have hs2 : (⟨m ++ List.replicate (l.length - c) false⟩ : Array Bool).setIfInBounds i true = ⟨m.set i true ++ List.replicate (l.length - c) false⟩ := by
    simp [List.set_append_left _ _ (show i < m.length by omega)]
   rw [hs1] at h'
   rw [hs2]
   refine ih (m.set i true) a' w' (by simpa using hm) (fun j oj hoj hj e h2 h3 => ?_) ?_ h'
   ·have hself : ∀ q, m[q]? = some true → (m.set i true)[q]? = some true := fun q hq => by
     rw [List.getElem?_set]
     split
     ·rename_i h; subst h; rw [hmi] at hq; cases hq
     ·exact hq
    by_cases hji : j = i
    ·subst hji
     rw [ho] at hoj; cases hoj
     exact hself _ (he e h2 h3)
    ·rw [List.getElem?_set_ne (fun h => hji h.symm)] at hj
     exact hself _ (hcd j oj hoj hj e h2 h3)
   ·have hlt3 : i < m.length := by omega
    have hmi2 : m[i] = false := by rw [List.getElem?_eq_getElem hlt3] at hmi; simpa using hmi
    rw [List.count_set (h := hlt3)]
    simp [hmi2]
    omega
section
variable {x : Cx} {Q : Exit → Act → World → Prop} {E : Env} {ρ : Hp} {L : SH} {l : List Oper}
def QPh (x : Cx) (l : List Oper) (c : Nat) (Q : Exit → Act → World → Prop) : Exit → Act → World → Prop :=
 fun _ a w => wpAnyIn (Fw x.ro) 0 x.P .any l.toArray (QN Q) (l.length - c) ⟨List.replicate c true ++ List.replicate (l.length - c) false⟩ a w
theorem tc_phase {id : Nat} (c : Nat) (S : World → Prop) [hm : Mixed x.P] (hcut : cutB l c = true) (hS : ∀ w, Sat x.u ρ L w → S w) (h : TR x (l.take c) S c (List.replicate c false) (QPh x l c Q) E ρ L) : TC x (.region id l.toArray true) Q E ρ L := fun a w ha hw => by
 refine wpIn_mono (Q := QN Q) ?_ (fun e a w q => by cases e <;> first | exact q | exact q.elim)
 refine wpIn_region_any hm.out ?_
 have h1 := h a _ ha hw.drew (hS _ hw.drew)
 have h2 := wpAnyIn_of_G _ _ _ _ h1
 have hcl : c ≤ l.length := by
  simp only [cutB, Bool.and_eq_true, decide_eq_true_eq] at hcut
  exact hcut.1
 have h3 := any_cut (Q := Q) hcut c (List.replicate c false) a _ (by simp) (fun j o _ hj => by
  rw [List.getElem?_replicate] at hj
  split at hj <;> simp at hj) (by simp) h2
 have e1 : c + (l.length - c) = l.length := by omega
 rw [e1, List.replicate_append_replicate, e1] at h3
 simpa using h3
theorem te_phase {c fuel : Nat} {m : List Bool} (S : World → Prop) (hf : l.length - c = fuel) (hm : List.replicate c true ++ List.replicate fuel false = m) (hS : ∀ w, Sat x.u ρ L w → S w) (h : TR x l S fuel m Q E ρ L) : TE x .normal (QPh x l c Q) E ρ L := fun a w ha hw => by
 subst hf
 subst hm
 exact wpAnyIn_of_G _ _ _ _ (h a w ha hw (hS w hw))
end
end Go.Proofs.E
namespace Go.Proofs.E
open Go Go.RowKit Go.WideShapes
set_option linter.unusedVariables false
set_option linter.unusedSimpArgs false
section
variable {H : Type} {enc : TypeId × Value → H} {P : Program} {w : World}
def OpnS (enc : TypeId × Value → H) (P : Program) (w : World) (t : TypeId) {α : Type} (R : List Value → α → Prop) : Prop :=
 ∀ fuel cs x, DataW.trod enc P w 0 (fun _ => true) true fuel t cs = some x → (∀ n ∈ x.1.weights P t, n ≤ reachBytes) → ∃ a, R cs a
theorem OpnS.mono {t : TypeId} {α β : Type} {R : List Value → α → Prop} {R' : List Value → β → Prop} (h : OpnS enc P w t R) (k : ∀ cs a, R cs a → ∃ b, R' cs b) : OpnS enc P w t R' := fun f cs x hx hw => by
 obtain ⟨a, ha⟩ := h f cs x hx hw
 exact k cs a ha
end
end Go.Proofs.E
namespace Go.Proofs.E
open Go
set_option linter.unusedVariables false
attribute [local irreducible] Yl TL TC TE Spec XM R1 Hp.le EnvLe TS TR YS Zo
section
variable {x : Cx} {E : Env} {ρ ρ0 : Hp} {L : SH} {v : Value}
theorem qF {e : Exit} {fn : Func} {u : World} {R : SH} {Post : Value → Hp → SH → Prop} {L' G : SH} (hp : Post v ρ L')
  (hr : ∀ a w, Ok x.D x.N E a → Sat x.u ρ L w → (results fn a.tmps).run x.P w = .ok v w := by
   first
   | exact res0 rfl
   | exact res1 rfl (ZY rfl)
   | exact res1 rfl (ZV rfl (by first | assumption | rfl))
   | exact res1 rfl (ZG rfl rfl)
   | exact res2 rfl (ZY rfl) (ZY rfl)
   | exact res2 rfl (ZY rfl) (ZV rfl (by first | assumption | rfl))
   | exact res2 rfl (ZY rfl) (ZG rfl rfl)
   | exact res2 rfl (ZV rfl (by first | assumption | rfl)) (ZY rfl)
   | exact res2 rfl (ZV rfl (by first | assumption | rfl)) (ZV rfl (by first | assumption | rfl))
   | exact res2 rfl (ZV rfl (by first | assumption | rfl)) (ZG rfl rfl)
   | exact res2 rfl (ZG rfl rfl) (ZY rfl)
   | exact res2 rfl (ZG rfl rfl) (ZV rfl (by first | assumption | rfl))
   | exact res2 rfl (ZG rfl rfl) (ZG rfl rfl)
   | exact WG rfl (ZY rfl) (ZY rfl) (ZY rfl)
   | exact WG rfl (ZY rfl) (ZY rfl) (ZV rfl (by first | assumption | rfl))
   | exact WG rfl (ZY rfl) (ZY rfl) (ZG rfl rfl)
   | exact WG rfl (ZY rfl) (ZV rfl (by first | assumption | rfl)) (ZY rfl)
   | exact WG rfl (ZY rfl) (ZV rfl (by first | assumption | rfl)) (ZV rfl (by first | assumption | rfl))
   | exact WG rfl (ZY rfl) (ZV rfl (by first | assumption | rfl)) (ZG rfl rfl)
   | exact WG rfl (ZY rfl) (ZG rfl rfl) (ZY rfl)
   | exact WG rfl (ZY rfl) (ZG rfl rfl) (ZV rfl (by first | assumption | rfl))
   | exact WG rfl (ZY rfl) (ZG rfl rfl) (ZG rfl rfl)
   | exact WG rfl (ZV rfl (by first | assumption | rfl)) (ZY rfl) (ZY rfl)
   | exact WG rfl (ZV rfl (by first | assumption | rfl)) (ZY rfl) (ZV rfl (by first | assumption | rfl))
   | exact WG rfl (ZV rfl (by first | assumption | rfl)) (ZY rfl) (ZG rfl rfl)
   | exact WG rfl (ZV rfl (by first | assumption | rfl)) (ZV rfl (by first | assumption | rfl)) (ZY rfl)
   | exact WG rfl (ZV rfl (by first | assumption | rfl)) (ZV rfl (by first | assumption | rfl)) (ZV rfl (by first | assumption | rfl))
   | exact WG rfl (ZV rfl (by first | assumption | rfl)) (ZV rfl (by first | assumption | rfl)) (ZG rfl rfl)
   | exact WG rfl (ZV rfl (by first | assumption | rfl)) (ZG rfl rfl) (ZY rfl)
   | exact WG rfl (ZV rfl (by first | assumption | rfl)) (ZG rfl rfl) (ZV rfl (by first | assumption | rfl))
   | exact WG rfl (ZV rfl (by first | assumption | rfl)) (ZG rfl rfl) (ZG rfl rfl)
   | exact WG rfl (ZG rfl rfl) (ZY rfl) (ZY rfl)
   | exact WG rfl (ZG rfl rfl) (ZY rfl) (ZV rfl (by first | assumption | rfl))
   | exact WG rfl (ZG rfl rfl) (ZY rfl) (ZG rfl rfl)
   | exact WG rfl (ZG rfl rfl) (ZV rfl (by first | assumption | rfl)) (ZY rfl)
   | exact WG rfl (ZG rfl rfl) (ZV rfl (by first | assumption | rfl)) (ZV rfl (by first | assumption | rfl))
   | exact WG rfl (ZG rfl rfl) (ZV rfl (by first | assumption | rfl)) (ZG rfl rfl)
   | exact WG rfl (ZG rfl rfl) (ZG rfl rfl) (ZY rfl)
   | exact WG rfl (ZG rfl rfl) (ZG rfl rfl) (ZV rfl (by first | assumption | rfl))
   | exact WG rfl (ZG rfl rfl) (ZG rfl rfl) (ZG rfl rfl))
  (hle : ρ0.le ρ := by first | assumption | exact Hp.le_refl _ | (refine Hp.le_trans ?_ (by assumption); assumption) | solve_by_elim (maxDepth := 6) [Hp.le_trans]) (k : Xa L L' G := by exact tk) (en : WH G R := by infer_instance) (he : isEnd e = true := by rfl) (hD : x.D = [] := by rfl) (hu : x.u = u := by rfl) :
  TE x e (bodyPostM (Fw none) 0 x.P fn (RK u ρ0 R Post)) E ρ L := te_end he hD hu hr hle k en hp
end
theorem bool_eq {a b : Bool} (h : a = true ↔ b = true) : Value.bool a = Value.bool b := congrArg _ (Bool.eq_iff_iff.2 h)
class SetN (l : List Value) (off n : Nat) (vs : List Value) (l' : outParam (List Value)) : Prop where
 len : vs.length = n
 fit : off + n ≤ l.length
 out : stc l off vs = l'
instance SetN.nil {l : List Value} : SetN l 0 0 [] l := ⟨rfl, by simp, by simp [stc]⟩
instance SetN.cons {a v : Value} {r vs r' : List Value} {n : Nat} [h : SetN r 0 n vs r'] : SetN (a :: r) 0 (n + 1) (v :: vs) (v :: r') := ⟨by
 have := h.len; simp [this], by have := h.fit; simp at this ⊢; omega, by
 have := h.out
 simp only [stc, List.take_zero, List.nil_append, Nat.zero_add, List.length_cons, List.drop_succ_cons, List.cons_append] at this ⊢
 rw [this]⟩
instance SetN.drop {a : Value} {r vs r' : List Value} {o n : Nat} [h : SetN r o n vs r'] : SetN (a :: r) (o + 1) n vs (a :: r') := ⟨h.len, by
 have := h.fit; simp only [List.length_cons]; omega, by
 have := h.out
 simp only [stc, List.take_succ_cons, List.cons_append] at this ⊢
 rw [show o + 1 + vs.length = (o + vs.length) + 1 by omega, List.drop_succ_cons, this]⟩
class GetQ (pl : List (Nat × Nat)) (i : Nat) (off n : outParam Nat) : Prop where
 out : pl[i]? = some (off, n)
instance GetQ.zero {off n : Nat} {r : List (Nat × Nat)} : GetQ ((off, n) :: r) 0 off n := ⟨rfl⟩
instance GetQ.succ {p : Nat × Nat} {r : List (Nat × Nat)} {i off n : Nat} [h : GetQ r i off n] : GetQ (p :: r) (i + 1) off n := ⟨by simpa using h.out⟩
class CellsL (v : Value) (l : outParam (List Value)) : Prop where
 out : v.cells = ⟨l⟩
instance {l : List Value} : CellsL (.agg ⟨l⟩) l := ⟨rfl⟩
instance {k : IntKind} {n : Int} : CellsL (.int k n) [.int k n] := ⟨rfl⟩
instance {b : Bool} : CellsL (.bool b) [.bool b] := ⟨rfl⟩
instance {s : ByteArray} : CellsL (.string s) [.string s] := ⟨rfl⟩
instance {a : Option Addr} : CellsL (.pointer a) [.pointer a] := ⟨rfl⟩
instance {a : Option Addr} {n c : Nat} : CellsL (.slice a n c) [.slice a n c] := ⟨rfl⟩
instance {m : Option Nat} : CellsL (.map m) [.map m] := ⟨rfl⟩
class BuildM (pl : List (Nat × Nat)) (cells : List Value) (ps : List (Nat × Operand)) (vs : List Value) (out : outParam (List Value)) : Prop where
 out : Instr.fill (pl[·]?) ⟨cells⟩ ((ps.map (·.1)).zip vs) = some ⟨out⟩
instance BuildM.nil {pl : List (Nat × Nat)} {cells : List Value} : BuildM pl cells [] [] cells := ⟨rfl⟩
instance BuildM.cons {pl : List (Nat × Nat)} {cells cells' out : List Value} {i off n : Nat} {o : Operand} {ps : List (Nat × Operand)} {v : Value} {l vs : List Value} [h1 : GetQ pl i off n] [h0 : CellsL v l] [h2 : SetN cells off n l cells'] [h3 : BuildM pl cells' ps vs out] : BuildM pl cells ((i, o) :: ps) (v :: vs) out := ⟨by
 simp only [List.map_cons, List.zip_cons_cons]
 rw [fill_cons (pl := (pl[·]?)) h1.out h0.out h2.len h2.fit, h2.out]
 exact h3.out⟩
theorem Zy {x : Cx} {E : Env} {ρ : Hp} {L : SH} {ty : TypeId} {t : Nat} {pl : List (Nat × Nat)} {z out : List Value} {ps : List (Nat × Operand)} {vs : List Value} [hP : ZS x.P t (pl[·]?)] [hz : Zw x.P t (.agg ⟨z⟩)] (hv : evs E (ps.map (·.2)) = some vs) [hB : BuildM pl z ps vs out] :
  Yl x (.build t ⟨ps⟩) ty E ρ L (.agg ⟨out⟩) := XQ hv hB.out
end Go.Proofs.E
namespace Go.Proofs.E
open Go
set_option linter.unusedVariables false
theorem Spec.thaw {P : Program} {f : FuncId} {args : List Value} {ρ : Hp} {C L : SH} {Post : Value → SH → Prop} (h : ∀ ρ1, ρ.le ρ1 → (∀ p ∈ C.flatten, ρ1 p.1 = some p.2) → Spec P f args ρ1 L (fun v ρ' L' => ρ' = ρ1 ∧ Post v L')) :
  Spec P f args ρ (C ++ L) (fun v ρ' L' => ρ' = ρ ∧ ∃ L2, Post v L2 ∧ L' = C ++ L2) := fun u R w hw => by
 have hw1 : Sat u ρ (C.flatten :: (L ++ R)) w := hw.perm (by simp)
 obtain ⟨h1, hle, hf⟩ := hw1.freeze
 have hap : ∀ p ∈ C.flatten, ρ p.1 = none := fun p hp => hw1.apart p (by simp only [List.flatten_cons, List.mem_append]; exact .inl hp)
 have hnd := hw1.nodup
 simp only [List.flatten_cons, List.map_append, List.nodup_append] at hnd
 refine (h _ hle hf u R w h1).mono ?_
 rintro e w' ⟨v, ρ', L', h2, h3, h4, rfl, h5⟩
 refine ⟨v, ρ, C ++ L', h2, Hp.le_refl _, ?_, rfl, L', h5, rfl⟩
 have hne : ∀ p ∈ (L' ++ R).flatten, ∀ q ∈ C.flatten, p.1 ≠ q.1 := fun p hp q hq e => by
  have a1 := h4.apart p hp
  rw [e, hf q hq] at a1
  cases a1
 have key : Sat u ρ (C.flatten :: (L' ++ R)) w' := by
  refine ⟨h4.os, h4.tape, h4.output, ?_, ?_, ?_, fun b o hb => h4.imm b o (hle b o hb)⟩
  ·simp only [List.flatten_cons, List.map_append, List.nodup_append]
   refine ⟨hnd.1, ?_, ?_⟩
   ·have := h4.nodup
    simpa [List.nodup_append] using this
   ·intro a ha b hb e
    obtain ⟨q, hq, rfl⟩ := List.mem_map.1 ha
    obtain ⟨p, hp, rfl⟩ := List.mem_map.1 (by simpa using hb : b ∈ List.map Prod.fst (L' ++ R).flatten)
    exact hne p hp q hq e.symm
  ·intro p hp
   simp only [List.flatten_cons, List.mem_append] at hp
   rcases hp with hp | hp
   ·exact h4.imm _ _ (hf p hp)
   ·exact h4.here p (by simpa using hp)
  ·intro p hp
   simp only [List.flatten_cons, List.mem_append] at hp
   rcases hp with hp | hp
   ·exact hap p hp
   ·have a1 := h4.apart p (by simpa using hp)
    cases hx : ρ p.1 with
    | none => rfl
    | some o => rw [hle _ _ hx] at a1; cases a1
 exact key.perm (by simp)
end Go.Proofs.E
namespace Go.Proofs.E
open Go Go.Lib
set_option linter.unusedVariables false
set_option linter.unusedSimpArgs false
set_option linter.unusedSectionVars false
section
variable {x : Cx} {Q : Exit → Act → World → Prop} {E : Env} {ρ : Hp} {L L1 : SH} {ops : Array Oper} {rest : List Oper} {ty : TypeId} {pos : String} {af : Array Edge}
theorem GetL.get {l : List Value} {d : Nat} {v : Value} (h : GetL l d v) : l[d]? = some v := h.out
theorem TE.perm {e : Exit} {L' : SH} (h : TE x e Q E ρ L') (hL : L.flatten.Perm L'.flatten) : TE x e Q E ρ L := fun a w ha hw => h a w ha (hw.perm hL)
theorem TE.sub {e : Exit} {L' : SH} (h : TE x e Q E ρ L') (hL : List.Sublist L'.flatten L.flatten) : TE x e Q E ρ L := fun a w ha hw => h a w ha (hw.sub hL)
theorem TC.sub {c : Code} {L' : SH} (h : TC x c Q E ρ L') (hL : List.Sublist L'.flatten L.flatten) : TC x c Q E ρ L := fun a w ha hw => h a w ha (hw.sub hL)
theorem TL.sub {l : List Oper} {L' : SH} (h : TL x ops l Q E ρ L') (hL : List.Sublist L'.flatten L.flatten) : TL x ops l Q E ρ L := fun a w ha hw => h a w ha (hw.sub hL)
end
theorem Hp.up {ρ ρ' : Hp} (h : ρ.le ρ') {b : Nat} {o : Obj} (hb : ρ b = some o) : ρ' b = some o := h _ _ hb
section
variable {x : Cx} {Q : Exit → Act → World → Prop} {E : Env} {ρ : Hp} {L : SH} {ops : Array Oper} {rest : List Oper} {ty : TypeId} {pos : String} {af : Array Edge}
end
theorem Spec.freeze {P : Program} {f : FuncId} {args : List Value} {ρ : Hp} {L : SH} {Post : Value → Hp → SH → Prop} {Post2 : Value → Hp → Prop} (h : Spec P f args ρ L Post)
  (k : ∀ v ρ' L', ρ.le ρ' → Post v ρ' L' → ∀ ρ2, ρ'.le ρ2 → (∀ p ∈ L'.flatten, ρ2 p.1 = some p.2) → Post2 v ρ2) : Spec P f args ρ L (fun v ρ2 L2 => Post2 v ρ2 ∧ L2 = []) := fun u R w hw => by
 refine (h u R w hw).mono ?_
 rintro e w' ⟨v, ρ', L', h2, h3, h4, h5⟩
 have h6 : Sat u ρ' (L'.flatten :: R) w' := h4.perm (by simp)
 obtain ⟨h7, hle, hf⟩ := h6.freeze
 exact ⟨v, _, [], h2, Hp.le_trans h3 hle, h7, k v ρ' L' h3 h5 _ hle hf, rfl⟩
section
variable {x : Cx} {Q : Exit → Act → World → Prop} {E : Env} {ρ : Hp} {L L1 L2 : SH} {ops : Array Oper} {l : List Oper} {c d : List (Nat × Obj)} {e : Exit} {y : Code}
end
instance (priority := 1100) eqC_four {P : Program} {m t e : Nat} {k : IntKind} [hA : Wl P t 4 e] [hE : YQ P e k] [hS : TyS P e] {a b c d a' b' c' d' : Int} :
  EqC P (m + 2) t (.agg ⟨[.int k a, .int k b, .int k c, .int k d]⟩) (.agg ⟨[.int k a', .int k b', .int k c', .int k d']⟩) (decide (a = a' ∧ b = b' ∧ c = c' ∧ d = d')) := ⟨fun dd w hdd => by
 obtain ⟨dd, rfl⟩ : ∃ d', dd = d' + 2 := ⟨dd - 2, by omega⟩
 obtain ⟨ds, i, g1, g2, g3, g4⟩ := hS.out
 have hag : ∀ w, (isAgg e).run P w = .ok false w := fun w => by
  simp only [isAgg, underlying, Sem.run_bind, run_program, Result.andThen_ok, g1, Sem.run_pure]
  cases ds <;> simp_all
 have hcl : P.cellsOf e = 1 := by simp [Program.cellsOf, g3, g4]
 have hp : ∀ (x : Array Value) (j : Nat) (v : Value) (w : World), x[j]? = some v → (part e x j).run P w = .ok v w := fun x j v w h => by
  simp [part, hag, h]
 have hr := fun (x y : Int) (w : World) => run_equalIn_int (P := P) w dd e k k x y hE.out
 rw [run_equalIn_array w (dd + 1) _ _ hA.out g3, show List.range 4 = [0, 1, 2, 3] from rfl]
 have q0 := fun w => hp ⟨[.int k a, .int k b, .int k c, .int k d]⟩ 0 (.int k a) w rfl
 have q1 := fun w => hp ⟨[.int k a, .int k b, .int k c, .int k d]⟩ 1 (.int k b) w rfl
 have q2 := fun w => hp ⟨[.int k a, .int k b, .int k c, .int k d]⟩ 2 (.int k c) w rfl
 have q3 := fun w => hp ⟨[.int k a, .int k b, .int k c, .int k d]⟩ 3 (.int k d) w rfl
 have p0 := fun w => hp ⟨[.int k a', .int k b', .int k c', .int k d']⟩ 0 (.int k a') w rfl
 have p1 := fun w => hp ⟨[.int k a', .int k b', .int k c', .int k d']⟩ 1 (.int k b') w rfl
 have p2 := fun w => hp ⟨[.int k a', .int k b', .int k c', .int k d']⟩ 2 (.int k c') w rfl
 have p3 := fun w => hp ⟨[.int k a', .int k b', .int k c', .int k d']⟩ 3 (.int k d') w rfl
 simp only [Op.eqItems, Sem.run_bind, hcl, Nat.mul_one, q0, p0, q1, p1, q2, p2, q3, p3, Result.andThen_ok, hr]
 cases h0 : (a == a') <;> cases h1 : (b == b') <;> cases h2 : (c == c') <;> cases h3 : (d == d') <;> simp only [h0, h1, h2, h3, Bool.not_true, Bool.not_false, if_true, if_false, Bool.false_eq_true, Sem.run_bind, Sem.run_pure, q1, p1, q2, p2, q3, p3, hr, Result.andThen_ok, Op.eqItems]
 all_goals (congr 1; simp only [beq_iff_eq, beq_eq_false_iff_ne] at h0 h1 h2 h3; simp [h0, h1, h2, h3])⟩
end Go.Proofs.E
namespace Go.Proofs.E
open Go Go.Lib
set_option linter.unusedVariables false
set_option linter.unusedSimpArgs false
theorem Spec.forget {P : Program} {f : FuncId} {args : List Value} {ρ : Hp} {L : SH} {Post : Value → Hp → SH → Prop} {Post2 : Value → Hp → SH → Prop} (h : Spec P f args ρ L Post)
  (k : ∀ v ρ' L', Post v ρ' L' → ∃ c X, L' = X ++ [c] ∧ ∀ ρ2, ρ'.le ρ2 → Post2 v ρ2 X) : Spec P f args ρ L Post2 := fun u R w hw => by
 refine (h u R w hw).mono ?_
 rintro e w' ⟨v, ρ', L', h2, h3, h4, h5⟩
 obtain ⟨c, X, rfl, h6⟩ := k v ρ' L' h5
 have h7 : Sat u ρ' (c :: (X ++ R)) w' := h4.perm (by simp only [List.flatten_append, List.flatten_cons, List.flatten_nil, List.append_nil, List.append_assoc]; exact List.perm_append_comm_assoc _ _ _)
 obtain ⟨h8, hle, hf⟩ := h7.freeze
 exact ⟨v, _, X, h2, Hp.le_trans h3 hle, h8, h6 _ hle⟩
end Go.Proofs.E
namespace Go.Proofs.E
open Go Go.Proofs.E
set_option linter.unusedVariables false
theorem tqI {t : TypeId} {b : Bool} (h : (Tryz.prog.underlying t).map isIfaceD = some b := by kernel_rfl) : Zu Tryz.prog t b := mkTyIface h
theorem tqS {t : TypeId} (h : (Tryz.prog.underlying t).map isAggD = some false := by kernel_rfl) (k : (Tryz.prog.info? t).map (·.size) = some 1 := by kernel_rfl) : TyS Tryz.prog t := mkTyS h k
theorem tqA {t : TypeId} {n : Nat} (h : (Tryz.prog.underlying t).map isAggD = some true := by kernel_rfl) (k : (Tryz.prog.info? t).map (·.size) = some n := by kernel_rfl) : TyA Tryz.prog t n := mkTyA h k
theorem tqN {t : TypeId} {n : Nat} (k : (Tryz.prog.info? t).map (·.size) = some n := by kernel_rfl) : ZK Tryz.prog t n := mkTySz k
theorem tqB {t : TypeId} {n : Nat} (k : (Tryz.prog.info? t).map (·.bytes) = some n := by kernel_rfl) : Zt Tryz.prog t n := mkTyBytes k
theorem tqO {t : TypeId} {z : Value} (k : (Tryz.prog.info? t).bind (·.zero) = some z := by kernel_rfl) : Zw Tryz.prog t z := mkTyZero k
theorem tqF {t : TypeId} (h : (Tryz.prog.underlying t).map isFuncD = some true := by kernel_rfl) : YF Tryz.prog t := mkTyFunc h
theorem tqD {s : TypeId} {f off : Nat} {ft : TypeId} (h : fldB Tryz.prog s f = some (off, ft) := by kernel_rfl) : Fld Tryz.prog s f off ft := mkFld h
theorem tqU {f : FuncId} (h : funB Tryz.prog f = true := by kernel_rfl) : Fun Tryz.prog f := mkFun h
instance : TyS Tryz.prog 1 := tqS
instance : Zu Tryz.prog 1 false := tqI
instance : YF Tryz.prog 1 := tqF
instance : ZK Tryz.prog 1 1 := tqN
instance : Zt Tryz.prog 1 8 := tqB
instance : Zw Tryz.prog 1 (.nilFunc) := tqO
instance : TyS Tryz.prog 2 := tqS
instance : Zu Tryz.prog 2 false := tqI
instance : ZK Tryz.prog 2 1 := tqN
instance : Zt Tryz.prog 2 8 := tqB
instance : Zw Tryz.prog 2 (.int .i64 0) := tqO
instance : YQ Tryz.prog 2 .i64 := ⟨by kernel_rfl⟩
instance : TyS Tryz.prog 3 := tqS
instance : Zu Tryz.prog 3 false := tqI
instance : ZK Tryz.prog 3 1 := tqN
instance : Zt Tryz.prog 3 8 := tqB
instance : Zw Tryz.prog 3 (.int .i64 0) := tqO
instance : YQ Tryz.prog 3 .i64 := ⟨by kernel_rfl⟩
instance : TyS Tryz.prog 4 := tqS
instance : Zu Tryz.prog 4 false := tqI
instance : ZK Tryz.prog 4 1 := tqN
instance : Zt Tryz.prog 4 1 := tqB
instance : Zw Tryz.prog 4 (.bool false) := tqO
instance : TyBool Tryz.prog 4 := ⟨by kernel_rfl⟩
instance : TyS Tryz.prog 5 := tqS
instance : Zu Tryz.prog 5 false := tqI
instance : ZK Tryz.prog 5 1 := tqN
instance : Zt Tryz.prog 5 1 := tqB
instance : Zw Tryz.prog 5 (.int .u8 0) := tqO
instance : YQ Tryz.prog 5 .u8 := ⟨by kernel_rfl⟩
instance : TyA Tryz.prog 7 4 := tqA
instance : Zu Tryz.prog 7 false := tqI
instance : ZK Tryz.prog 7 4 := tqN
instance : Zt Tryz.prog 7 24 := tqB
instance : Zw Tryz.prog 7 (.agg ⟨[.int .i64 0, .int .i64 0, .bool false, .int .u8 0]⟩) := tqO
instance : Yc Tryz.prog 7 := ⟨by kernel_rfl⟩
instance : Fld Tryz.prog 7 0 0 2 := tqD
instance : Fld Tryz.prog 7 1 1 3 := tqD
instance : Fld Tryz.prog 7 2 2 4 := tqD
instance : Fld Tryz.prog 7 3 3 6 := tqD
instance : ZS Tryz.prog 7 (([(0, 1), (1, 1), (2, 1), (3, 1)] : List (Nat × Nat))[·]?) := ZX (by kernel_rfl)
instance : TyS Tryz.prog 9 := tqS
instance : Zu Tryz.prog 9 false := tqI
instance : ZK Tryz.prog 9 1 := tqN
instance : Zt Tryz.prog 9 16 := tqB
instance : Zw Tryz.prog 9 (.string ⟨⟨[]⟩⟩) := tqO
instance : TyStr Tryz.prog 9 := ⟨by kernel_rfl⟩
instance : TyS Tryz.prog 12 := tqS
instance : Zu Tryz.prog 12 false := tqI
instance : ZK Tryz.prog 12 1 := tqN
instance : Zt Tryz.prog 12 8 := tqB
instance : Zw Tryz.prog 12 (.int .u64 0) := tqO
instance : YQ Tryz.prog 12 .u64 := ⟨by kernel_rfl⟩
instance : TyS Tryz.prog 16 := tqS
instance : Zu Tryz.prog 16 false := tqI
instance : ZK Tryz.prog 16 1 := tqN
instance : Zt Tryz.prog 16 8 := tqB
instance : Zw Tryz.prog 16 (.pointer none) := tqO
instance : TyPtr Tryz.prog 16 187 := ⟨by kernel_rfl⟩
instance : TyS Tryz.prog 17 := tqS
instance : Zu Tryz.prog 17 false := tqI
instance : ZK Tryz.prog 17 1 := tqN
instance : Zt Tryz.prog 17 8 := tqB
instance : Zw Tryz.prog 17 (.pointer none) := tqO
instance : TyPtr Tryz.prog 17 195 := ⟨by kernel_rfl⟩
instance : TyS Tryz.prog 20 := tqS
instance : Zu Tryz.prog 20 true := tqI
instance : ZK Tryz.prog 20 1 := tqN
instance : Zt Tryz.prog 20 16 := tqB
instance : Zw Tryz.prog 20 (.nilIface) := tqO
instance : TyS Tryz.prog 21 := tqS
instance : Zu Tryz.prog 21 false := tqI
instance : ZK Tryz.prog 21 1 := tqN
instance : Zt Tryz.prog 21 4 := tqB
instance : Zw Tryz.prog 21 (.int .i32 0) := tqO
instance : YQ Tryz.prog 21 .i32 := ⟨by kernel_rfl⟩
instance : TyS Tryz.prog 22 := tqS
instance : Zu Tryz.prog 22 false := tqI
instance : ZK Tryz.prog 22 1 := tqN
instance : Zt Tryz.prog 22 24 := tqB
instance : Zw Tryz.prog 22 (.slice none 0 0) := tqO
instance : Yd Tryz.prog 22 71 := ⟨by kernel_rfl⟩
instance : TyS Tryz.prog 23 := tqS
instance : Zu Tryz.prog 23 false := tqI
instance : ZK Tryz.prog 23 1 := tqN
instance : Zt Tryz.prog 23 24 := tqB
instance : Zw Tryz.prog 23 (.slice none 0 0) := tqO
instance : Yd Tryz.prog 23 3 := ⟨by kernel_rfl⟩
instance : TyS Tryz.prog 24 := tqS
instance : Zu Tryz.prog 24 false := tqI
instance : YF Tryz.prog 24 := tqF
instance : ZK Tryz.prog 24 1 := tqN
instance : Zt Tryz.prog 24 8 := tqB
instance : Zw Tryz.prog 24 (.nilFunc) := tqO
instance : TyS Tryz.prog 25 := tqS
instance : Zu Tryz.prog 25 false := tqI
instance : ZK Tryz.prog 25 1 := tqN
instance : Zt Tryz.prog 25 8 := tqB
instance : Zw Tryz.prog 25 (.pointer none) := tqO
instance : TyPtr Tryz.prog 25 69 := ⟨by kernel_rfl⟩
instance : TyS Tryz.prog 26 := tqS
instance : Zu Tryz.prog 26 false := tqI
instance : ZK Tryz.prog 26 1 := tqN
instance : Zt Tryz.prog 26 8 := tqB
instance : Zw Tryz.prog 26 (.int .i64 0) := tqO
instance : YQ Tryz.prog 26 .i64 := ⟨by kernel_rfl⟩
instance : TyS Tryz.prog 30 := tqS
instance : Zu Tryz.prog 30 false := tqI
instance : ZK Tryz.prog 30 1 := tqN
instance : Zt Tryz.prog 30 8 := tqB
instance : Zw Tryz.prog 30 (.pointer none) := tqO
instance : TyPtr Tryz.prog 30 109 := ⟨by kernel_rfl⟩
instance : TyS Tryz.prog 32 := tqS
instance : Zu Tryz.prog 32 false := tqI
instance : YF Tryz.prog 32 := tqF
instance : ZK Tryz.prog 32 1 := tqN
instance : Zt Tryz.prog 32 8 := tqB
instance : Zw Tryz.prog 32 (.nilFunc) := tqO
instance : TyS Tryz.prog 33 := tqS
instance : Zu Tryz.prog 33 false := tqI
instance : ZK Tryz.prog 33 1 := tqN
instance : Zt Tryz.prog 33 24 := tqB
instance : Zw Tryz.prog 33 (.slice none 0 0) := tqO
instance : Yd Tryz.prog 33 65 := ⟨by kernel_rfl⟩
instance : TyS Tryz.prog 34 := tqS
instance : Zu Tryz.prog 34 false := tqI
instance : ZK Tryz.prog 34 1 := tqN
instance : Zt Tryz.prog 34 24 := tqB
instance : Zw Tryz.prog 34 (.slice none 0 0) := tqO
instance : Yd Tryz.prog 34 82 := ⟨by kernel_rfl⟩
instance : TyA Tryz.prog 35 3 := tqA
instance : Zu Tryz.prog 35 false := tqI
instance : ZK Tryz.prog 35 3 := tqN
instance : Zt Tryz.prog 35 56 := tqB
instance : Zw Tryz.prog 35 (.agg ⟨[.int .i64 0, .slice none 0 0, .slice none 0 0]⟩) := tqO
instance : Yc Tryz.prog 35 := ⟨by kernel_rfl⟩
instance : Fld Tryz.prog 35 0 0 3 := tqD
instance : Fld Tryz.prog 35 1 1 33 := tqD
instance : Fld Tryz.prog 35 2 2 34 := tqD
instance : ZS Tryz.prog 35 (([(0, 1), (1, 1), (2, 1)] : List (Nat × Nat))[·]?) := ZX (by kernel_rfl)
instance : TyA Tryz.prog 36 3 := tqA
instance : Zu Tryz.prog 36 false := tqI
instance : ZK Tryz.prog 36 3 := tqN
instance : Zt Tryz.prog 36 56 := tqB
instance : Zw Tryz.prog 36 (.agg ⟨[.int .i64 0, .slice none 0 0, .slice none 0 0]⟩) := tqO
instance : Yc Tryz.prog 36 := ⟨by kernel_rfl⟩
instance : TyFlds Tryz.prog 36 [(0, 3), (1, 33), (2, 34)] := XV (by kernel_rfl)
instance : Fld Tryz.prog 36 0 0 3 := tqD
instance : Fld Tryz.prog 36 1 1 33 := tqD
instance : Fld Tryz.prog 36 2 2 34 := tqD
instance : ZS Tryz.prog 36 (([(0, 1), (1, 1), (2, 1)] : List (Nat × Nat))[·]?) := ZX (by kernel_rfl)
instance : TyS Tryz.prog 37 := tqS
instance : Zu Tryz.prog 37 false := tqI
instance : ZK Tryz.prog 37 1 := tqN
instance : Zt Tryz.prog 37 8 := tqB
instance : Zw Tryz.prog 37 (.int .u64 0) := tqO
instance : YQ Tryz.prog 37 .u64 := ⟨by kernel_rfl⟩
instance : TyS Tryz.prog 40 := tqS
instance : Zu Tryz.prog 40 false := tqI
instance : YF Tryz.prog 40 := tqF
instance : ZK Tryz.prog 40 1 := tqN
instance : Zt Tryz.prog 40 8 := tqB
instance : Zw Tryz.prog 40 (.nilFunc) := tqO
instance : TyS Tryz.prog 43 := tqS
instance : Zu Tryz.prog 43 false := tqI
instance : ZK Tryz.prog 43 1 := tqN
instance : Zt Tryz.prog 43 24 := tqB
instance : Zw Tryz.prog 43 (.slice none 0 0) := tqO
instance : Yd Tryz.prog 43 45 := ⟨by kernel_rfl⟩
instance : TyA Tryz.prog 44 5 := tqA
instance : Zu Tryz.prog 44 false := tqI
instance : ZK Tryz.prog 44 5 := tqN
instance : Zt Tryz.prog 44 72 := tqB
instance : Zw Tryz.prog 44 (.agg ⟨[.int .i64 0, .int .u64 0, .int .i64 0, .slice none 0 0, .slice none 0 0]⟩) := tqO
instance : Yc Tryz.prog 44 := ⟨by kernel_rfl⟩
instance : Fld Tryz.prog 44 0 0 3 := tqD
instance : Fld Tryz.prog 44 1 1 37 := tqD
instance : Fld Tryz.prog 44 2 2 36 := tqD
instance : ZS Tryz.prog 44 (([(0, 1), (1, 1), (2, 3)] : List (Nat × Nat))[·]?) := ZX (by kernel_rfl)
instance : TyA Tryz.prog 45 5 := tqA
instance : Zu Tryz.prog 45 false := tqI
instance : ZK Tryz.prog 45 5 := tqN
instance : Zt Tryz.prog 45 72 := tqB
instance : Zw Tryz.prog 45 (.agg ⟨[.int .i64 0, .int .u64 0, .int .i64 0, .slice none 0 0, .slice none 0 0]⟩) := tqO
instance : Yc Tryz.prog 45 := ⟨by kernel_rfl⟩
instance : TyFlds Tryz.prog 45 [(0, 3), (1, 37), (2, 36)] := XV (by kernel_rfl)
instance : Fld Tryz.prog 45 0 0 3 := tqD
instance : Fld Tryz.prog 45 1 1 37 := tqD
instance : Fld Tryz.prog 45 2 2 36 := tqD
instance : ZS Tryz.prog 45 (([(0, 1), (1, 1), (2, 3)] : List (Nat × Nat))[·]?) := ZX (by kernel_rfl)
instance : TyS Tryz.prog 48 := tqS
instance : Zu Tryz.prog 48 false := tqI
instance : YF Tryz.prog 48 := tqF
instance : ZK Tryz.prog 48 1 := tqN
instance : Zt Tryz.prog 48 8 := tqB
instance : Zw Tryz.prog 48 (.nilFunc) := tqO
instance : TyA Tryz.prog 50 64 := tqA
instance : Zu Tryz.prog 50 false := tqI
instance : ZK Tryz.prog 50 64 := tqN
instance : Zt Tryz.prog 50 64 := tqB
instance : Zw Tryz.prog 50 (.agg ⟨List.replicate 64 (.int .u8 0)⟩) := tqO
instance : Yc Tryz.prog 50 := ⟨by kernel_rfl⟩
instance : Wl Tryz.prog 50 64 5 := ⟨by kernel_rfl⟩
instance : ZS Tryz.prog 50 (fun i => some (i * 1, 1)) := mkTyPlacesA (n := 64) (e := 5) (by kernel_rfl) (by kernel_rfl)
instance : TyA Tryz.prog 51 64 := tqA
instance : Zu Tryz.prog 51 false := tqI
instance : ZK Tryz.prog 51 64 := tqN
instance : Zt Tryz.prog 51 64 := tqB
instance : Zw Tryz.prog 51 (.agg ⟨List.replicate 64 (.int .u8 0)⟩) := tqO
instance : Yc Tryz.prog 51 := ⟨by kernel_rfl⟩
instance : Wl Tryz.prog 51 64 5 := ⟨by kernel_rfl⟩
instance : ZS Tryz.prog 51 (fun i => some (i * 1, 1)) := mkTyPlacesA (n := 64) (e := 5) (by kernel_rfl) (by kernel_rfl)
instance : TyA Tryz.prog 52 128 := tqA
instance : Zu Tryz.prog 52 false := tqI
instance : ZK Tryz.prog 52 128 := tqN
instance : Zt Tryz.prog 52 128 := tqB
instance : Zw Tryz.prog 52 (.agg ⟨List.replicate 128 (.int .u8 0)⟩) := tqO
instance : Yc Tryz.prog 52 := ⟨by kernel_rfl⟩
instance : Wl Tryz.prog 52 2 51 := ⟨by kernel_rfl⟩
instance : ZS Tryz.prog 52 (fun i => some (i * 64, 64)) := mkTyPlacesA (n := 2) (e := 51) (by kernel_rfl) (by kernel_rfl)
instance : TyS Tryz.prog 56 := tqS
instance : Zu Tryz.prog 56 false := tqI
instance : YF Tryz.prog 56 := tqF
instance : ZK Tryz.prog 56 1 := tqN
instance : Zt Tryz.prog 56 8 := tqB
instance : Zw Tryz.prog 56 (.nilFunc) := tqO
instance : TyS Tryz.prog 61 := tqS
instance : Zu Tryz.prog 61 false := tqI
instance : ZK Tryz.prog 61 1 := tqN
instance : Zt Tryz.prog 61 2 := tqB
instance : Zw Tryz.prog 61 (.int .u16 0) := tqO
instance : YQ Tryz.prog 61 .u16 := ⟨by kernel_rfl⟩
instance : TyA Tryz.prog 62 2 := tqA
instance : Zu Tryz.prog 62 false := tqI
instance : ZK Tryz.prog 62 2 := tqN
instance : Zt Tryz.prog 62 16 := tqB
instance : Zw Tryz.prog 62 (.agg ⟨[.int .i64 0, .int .u16 0]⟩) := tqO
instance : Yc Tryz.prog 62 := ⟨by kernel_rfl⟩
instance : Fld Tryz.prog 62 0 0 3 := tqD
instance : Fld Tryz.prog 62 1 1 61 := tqD
instance : ZS Tryz.prog 62 (([(0, 1), (1, 1)] : List (Nat × Nat))[·]?) := ZX (by kernel_rfl)
instance : TyA Tryz.prog 63 2 := tqA
instance : Zu Tryz.prog 63 false := tqI
instance : ZK Tryz.prog 63 2 := tqN
instance : Zt Tryz.prog 63 16 := tqB
instance : Zw Tryz.prog 63 (.agg ⟨[.int .i64 0, .int .u16 0]⟩) := tqO
instance : Yc Tryz.prog 63 := ⟨by kernel_rfl⟩
instance : TyFlds Tryz.prog 63 [(0, 3), (1, 61)] := XV (by kernel_rfl)
instance : Fld Tryz.prog 63 0 0 3 := tqD
instance : Fld Tryz.prog 63 1 1 61 := tqD
instance : ZS Tryz.prog 63 (([(0, 1), (1, 1)] : List (Nat × Nat))[·]?) := ZX (by kernel_rfl)
instance : TyA Tryz.prog 64 4 := tqA
instance : Zu Tryz.prog 64 false := tqI
instance : ZK Tryz.prog 64 4 := tqN
instance : Zt Tryz.prog 64 40 := tqB
instance : Zw Tryz.prog 64 (.agg ⟨[.int .i64 0, .int .u16 0, .int .i64 0, .string ⟨⟨[]⟩⟩]⟩) := tqO
instance : Yc Tryz.prog 64 := ⟨by kernel_rfl⟩
instance : Fld Tryz.prog 64 0 0 63 := tqD
instance : Fld Tryz.prog 64 1 2 2 := tqD
instance : Fld Tryz.prog 64 2 3 9 := tqD
instance : ZS Tryz.prog 64 (([(0, 2), (2, 1), (3, 1)] : List (Nat × Nat))[·]?) := ZX (by kernel_rfl)
instance : TyA Tryz.prog 65 4 := tqA
instance : Zu Tryz.prog 65 false := tqI
instance : ZK Tryz.prog 65 4 := tqN
instance : Zt Tryz.prog 65 40 := tqB
instance : Zw Tryz.prog 65 (.agg ⟨[.int .i64 0, .int .u16 0, .int .i64 0, .string ⟨⟨[]⟩⟩]⟩) := tqO
instance : Yc Tryz.prog 65 := ⟨by kernel_rfl⟩
instance : TyFlds Tryz.prog 65 [(0, 63), (2, 2), (3, 9)] := XV (by kernel_rfl)
instance : Fld Tryz.prog 65 0 0 63 := tqD
instance : Fld Tryz.prog 65 1 2 2 := tqD
instance : Fld Tryz.prog 65 2 3 9 := tqD
instance : ZS Tryz.prog 65 (([(0, 2), (2, 1), (3, 1)] : List (Nat × Nat))[·]?) := ZX (by kernel_rfl)
instance : TyS Tryz.prog 66 := tqS
instance : Zu Tryz.prog 66 false := tqI
instance : ZK Tryz.prog 66 1 := tqN
instance : Zt Tryz.prog 66 24 := tqB
instance : Zw Tryz.prog 66 (.slice none 0 0) := tqO
instance : Yd Tryz.prog 66 51 := ⟨by kernel_rfl⟩
instance : TyS Tryz.prog 67 := tqS
instance : Zu Tryz.prog 67 false := tqI
instance : ZK Tryz.prog 67 1 := tqN
instance : Zt Tryz.prog 67 8 := tqB
instance : Zw Tryz.prog 67 (.map none) := tqO
instance : TyMap Tryz.prog 67 3 51 := ⟨by kernel_rfl⟩
instance : TyA Tryz.prog 68 6 := tqA
instance : Zu Tryz.prog 68 false := tqI
instance : ZK Tryz.prog 68 6 := tqN
instance : Zt Tryz.prog 68 64 := tqB
instance : Zw Tryz.prog 68 (.agg ⟨[.slice none 0 0, .map none, .int .i64 0, .int .i64 0, .int .i64 0, .bool false]⟩) := tqO
instance : Yc Tryz.prog 68 := ⟨by kernel_rfl⟩
instance : Fld Tryz.prog 68 0 0 66 := tqD
instance : Fld Tryz.prog 68 1 1 67 := tqD
instance : Fld Tryz.prog 68 2 2 3 := tqD
instance : Fld Tryz.prog 68 3 3 3 := tqD
instance : Fld Tryz.prog 68 4 4 3 := tqD
instance : Fld Tryz.prog 68 5 5 4 := tqD
instance : ZS Tryz.prog 68 (([(0, 1), (1, 1), (2, 1), (3, 1), (4, 1), (5, 1)] : List (Nat × Nat))[·]?) := ZX (by kernel_rfl)
instance : TyA Tryz.prog 69 6 := tqA
instance : Zu Tryz.prog 69 false := tqI
instance : ZK Tryz.prog 69 6 := tqN
instance : Zt Tryz.prog 69 64 := tqB
instance : Zw Tryz.prog 69 (.agg ⟨[.slice none 0 0, .map none, .int .i64 0, .int .i64 0, .int .i64 0, .bool false]⟩) := tqO
instance : Yc Tryz.prog 69 := ⟨by kernel_rfl⟩
instance : TyFlds Tryz.prog 69 [(0, 66), (1, 67), (2, 3), (3, 3), (4, 3), (5, 4)] := XV (by kernel_rfl)
instance : Fld Tryz.prog 69 0 0 66 := tqD
instance : Fld Tryz.prog 69 1 1 67 := tqD
instance : Fld Tryz.prog 69 2 2 3 := tqD
instance : Fld Tryz.prog 69 3 3 3 := tqD
instance : Fld Tryz.prog 69 4 4 3 := tqD
instance : Fld Tryz.prog 69 5 5 4 := tqD
instance : ZS Tryz.prog 69 (([(0, 1), (1, 1), (2, 1), (3, 1), (4, 1), (5, 1)] : List (Nat × Nat))[·]?) := ZX (by kernel_rfl)
instance : TyA Tryz.prog 70 10 := tqA
instance : Zu Tryz.prog 70 false := tqI
instance : ZK Tryz.prog 70 10 := tqN
instance : Zt Tryz.prog 70 112 := tqB
instance : Zw Tryz.prog 70 (.agg ⟨[.int .i64 0, .int .i64 0, .int .i64 0, .int .i64 0, .int .u64 0, .int .u64 0, .int .i64 0, .slice none 0 0, .slice none 0 0, .int .u8 0]⟩) := tqO
instance : Yc Tryz.prog 70 := ⟨by kernel_rfl⟩
instance : Fld Tryz.prog 70 0 0 3 := tqD
instance : Fld Tryz.prog 70 1 1 3 := tqD
instance : Fld Tryz.prog 70 2 2 3 := tqD
instance : Fld Tryz.prog 70 3 3 3 := tqD
instance : Fld Tryz.prog 70 4 4 37 := tqD
instance : Fld Tryz.prog 70 5 5 37 := tqD
instance : Fld Tryz.prog 70 6 6 36 := tqD
instance : Fld Tryz.prog 70 7 9 5 := tqD
instance : ZS Tryz.prog 70 (([(0, 1), (1, 1), (2, 1), (3, 1), (4, 1), (5, 1), (6, 3), (9, 1)] : List (Nat × Nat))[·]?) := ZX (by kernel_rfl)
instance : TyA Tryz.prog 71 10 := tqA
instance : Zu Tryz.prog 71 false := tqI
instance : ZK Tryz.prog 71 10 := tqN
instance : Zt Tryz.prog 71 112 := tqB
instance : Zw Tryz.prog 71 (.agg ⟨[.int .i64 0, .int .i64 0, .int .i64 0, .int .i64 0, .int .u64 0, .int .u64 0, .int .i64 0, .slice none 0 0, .slice none 0 0, .int .u8 0]⟩) := tqO
instance : Yc Tryz.prog 71 := ⟨by kernel_rfl⟩
instance : TyFlds Tryz.prog 71 [(0, 3), (1, 3), (2, 3), (3, 3), (4, 37), (5, 37), (6, 36), (9, 5)] := XV (by kernel_rfl)
instance : Fld Tryz.prog 71 0 0 3 := tqD
instance : Fld Tryz.prog 71 1 1 3 := tqD
instance : Fld Tryz.prog 71 2 2 3 := tqD
instance : Fld Tryz.prog 71 3 3 3 := tqD
instance : Fld Tryz.prog 71 4 4 37 := tqD
instance : Fld Tryz.prog 71 5 5 37 := tqD
instance : Fld Tryz.prog 71 6 6 36 := tqD
instance : Fld Tryz.prog 71 7 9 5 := tqD
instance : ZS Tryz.prog 71 (([(0, 1), (1, 1), (2, 1), (3, 1), (4, 1), (5, 1), (6, 3), (9, 1)] : List (Nat × Nat))[·]?) := ZX (by kernel_rfl)
instance : TyS Tryz.prog 72 := tqS
instance : Zu Tryz.prog 72 false := tqI
instance : ZK Tryz.prog 72 1 := tqN
instance : Zt Tryz.prog 72 8 := tqB
instance : Zw Tryz.prog 72 (.int .u64 0) := tqO
instance : YQ Tryz.prog 72 .u64 := ⟨by kernel_rfl⟩
instance : TyS Tryz.prog 76 := tqS
instance : Zu Tryz.prog 76 false := tqI
instance : YF Tryz.prog 76 := tqF
instance : ZK Tryz.prog 76 1 := tqN
instance : Zt Tryz.prog 76 8 := tqB
instance : Zw Tryz.prog 76 (.nilFunc) := tqO
instance : TyA Tryz.prog 77 7 := tqA
instance : Zu Tryz.prog 77 false := tqI
instance : ZK Tryz.prog 77 7 := tqN
instance : Zt Tryz.prog 77 88 := tqB
instance : Zw Tryz.prog 77 (.agg ⟨[.int .u64 0, .int .u64 0, .int .i64 0, .slice none 0 0, .slice none 0 0, .bool false, .int .u64 0]⟩) := tqO
instance : Yc Tryz.prog 77 := ⟨by kernel_rfl⟩
instance : Fld Tryz.prog 77 0 0 37 := tqD
instance : Fld Tryz.prog 77 1 1 37 := tqD
instance : Fld Tryz.prog 77 2 2 36 := tqD
instance : Fld Tryz.prog 77 3 5 4 := tqD
instance : Fld Tryz.prog 77 4 6 37 := tqD
instance : ZS Tryz.prog 77 (([(0, 1), (1, 1), (2, 3), (5, 1), (6, 1)] : List (Nat × Nat))[·]?) := ZX (by kernel_rfl)
instance : TyA Tryz.prog 78 7 := tqA
instance : Zu Tryz.prog 78 false := tqI
instance : ZK Tryz.prog 78 7 := tqN
instance : Zt Tryz.prog 78 88 := tqB
instance : Zw Tryz.prog 78 (.agg ⟨[.int .u64 0, .int .u64 0, .int .i64 0, .slice none 0 0, .slice none 0 0, .bool false, .int .u64 0]⟩) := tqO
instance : Yc Tryz.prog 78 := ⟨by kernel_rfl⟩
instance : TyFlds Tryz.prog 78 [(0, 37), (1, 37), (2, 36), (5, 4), (6, 37)] := XV (by kernel_rfl)
instance : Fld Tryz.prog 78 0 0 37 := tqD
instance : Fld Tryz.prog 78 1 1 37 := tqD
instance : Fld Tryz.prog 78 2 2 36 := tqD
instance : Fld Tryz.prog 78 3 5 4 := tqD
instance : Fld Tryz.prog 78 4 6 37 := tqD
instance : ZS Tryz.prog 78 (([(0, 1), (1, 1), (2, 3), (5, 1), (6, 1)] : List (Nat × Nat))[·]?) := ZX (by kernel_rfl)
instance : TyS Tryz.prog 80 := tqS
instance : Zu Tryz.prog 80 false := tqI
instance : YF Tryz.prog 80 := tqF
instance : ZK Tryz.prog 80 1 := tqN
instance : Zt Tryz.prog 80 8 := tqB
instance : Zw Tryz.prog 80 (.nilFunc) := tqO
instance : TyA Tryz.prog 81 3 := tqA
instance : Zu Tryz.prog 81 false := tqI
instance : ZK Tryz.prog 81 3 := tqN
instance : Zt Tryz.prog 81 24 := tqB
instance : Zw Tryz.prog 81 (.agg ⟨[.int .i64 0, .int .u16 0, .int .i64 0]⟩) := tqO
instance : Yc Tryz.prog 81 := ⟨by kernel_rfl⟩
instance : Fld Tryz.prog 81 0 0 63 := tqD
instance : Fld Tryz.prog 81 1 2 3 := tqD
instance : ZS Tryz.prog 81 (([(0, 2), (2, 1)] : List (Nat × Nat))[·]?) := ZX (by kernel_rfl)
instance : TyA Tryz.prog 82 3 := tqA
instance : Zu Tryz.prog 82 false := tqI
instance : ZK Tryz.prog 82 3 := tqN
instance : Zt Tryz.prog 82 24 := tqB
instance : Zw Tryz.prog 82 (.agg ⟨[.int .i64 0, .int .u16 0, .int .i64 0]⟩) := tqO
instance : Yc Tryz.prog 82 := ⟨by kernel_rfl⟩
instance : TyFlds Tryz.prog 82 [(0, 63), (2, 3)] := XV (by kernel_rfl)
instance : Fld Tryz.prog 82 0 0 63 := tqD
instance : Fld Tryz.prog 82 1 2 3 := tqD
instance : ZS Tryz.prog 82 (([(0, 2), (2, 1)] : List (Nat × Nat))[·]?) := ZX (by kernel_rfl)
instance : TyS Tryz.prog 88 := tqS
instance : Zu Tryz.prog 88 false := tqI
instance : YF Tryz.prog 88 := tqF
instance : ZK Tryz.prog 88 1 := tqN
instance : Zt Tryz.prog 88 8 := tqB
instance : Zw Tryz.prog 88 (.nilFunc) := tqO
instance : TyS Tryz.prog 90 := tqS
instance : Zu Tryz.prog 90 false := tqI
instance : YF Tryz.prog 90 := tqF
instance : ZK Tryz.prog 90 1 := tqN
instance : Zt Tryz.prog 90 8 := tqB
instance : Zw Tryz.prog 90 (.nilFunc) := tqO
instance : TyS Tryz.prog 92 := tqS
instance : Zu Tryz.prog 92 false := tqI
instance : YF Tryz.prog 92 := tqF
instance : ZK Tryz.prog 92 1 := tqN
instance : Zt Tryz.prog 92 8 := tqB
instance : Zw Tryz.prog 92 (.nilFunc) := tqO
instance : TyS Tryz.prog 93 := tqS
instance : Zu Tryz.prog 93 false := tqI
instance : YF Tryz.prog 93 := tqF
instance : ZK Tryz.prog 93 1 := tqN
instance : Zt Tryz.prog 93 8 := tqB
instance : Zw Tryz.prog 93 (.nilFunc) := tqO
instance : TyA Tryz.prog 99 256 := tqA
instance : Zu Tryz.prog 99 false := tqI
instance : ZK Tryz.prog 99 256 := tqN
instance : Zt Tryz.prog 99 256 := tqB
instance : Zw Tryz.prog 99 (.agg ⟨List.replicate 256 (.int .u8 0)⟩) := tqO
instance : Yc Tryz.prog 99 := ⟨by kernel_rfl⟩
instance : Wl Tryz.prog 99 2 52 := ⟨by kernel_rfl⟩
instance : ZS Tryz.prog 99 (fun i => some (i * 128, 128)) := mkTyPlacesA (n := 2) (e := 52) (by kernel_rfl) (by kernel_rfl)
instance : TyS Tryz.prog 100 := tqS
instance : Zu Tryz.prog 100 false := tqI
instance : ZK Tryz.prog 100 1 := tqN
instance : Zt Tryz.prog 100 4 := tqB
instance : Zw Tryz.prog 100 (.int .u32 0) := tqO
instance : YQ Tryz.prog 100 .u32 := ⟨by kernel_rfl⟩
instance : TyS Tryz.prog 102 := tqS
instance : Zu Tryz.prog 102 false := tqI
instance : ZK Tryz.prog 102 1 := tqN
instance : Zt Tryz.prog 102 24 := tqB
instance : Zw Tryz.prog 102 (.slice none 0 0) := tqO
instance : Yd Tryz.prog 102 5 := ⟨by kernel_rfl⟩
instance : TyS Tryz.prog 104 := tqS
instance : Zu Tryz.prog 104 false := tqI
instance : YF Tryz.prog 104 := tqF
instance : ZK Tryz.prog 104 1 := tqN
instance : Zt Tryz.prog 104 8 := tqB
instance : Zw Tryz.prog 104 (.nilFunc) := tqO
instance : TyA Tryz.prog 108 2 := tqA
instance : Zu Tryz.prog 108 false := tqI
instance : ZK Tryz.prog 108 2 := tqN
instance : Zt Tryz.prog 108 16 := tqB
instance : Zw Tryz.prog 108 (.agg ⟨[.pointer none, .int .i64 0]⟩) := tqO
instance : Yc Tryz.prog 108 := ⟨by kernel_rfl⟩
instance : Fld Tryz.prog 108 0 0 25 := tqD
instance : Fld Tryz.prog 108 1 1 3 := tqD
instance : ZS Tryz.prog 108 (([(0, 1), (1, 1)] : List (Nat × Nat))[·]?) := ZX (by kernel_rfl)
instance : TyA Tryz.prog 109 2 := tqA
instance : Zu Tryz.prog 109 false := tqI
instance : ZK Tryz.prog 109 2 := tqN
instance : Zt Tryz.prog 109 16 := tqB
instance : Zw Tryz.prog 109 (.agg ⟨[.pointer none, .int .i64 0]⟩) := tqO
instance : Yc Tryz.prog 109 := ⟨by kernel_rfl⟩
instance : TyFlds Tryz.prog 109 [(0, 25), (1, 3)] := XV (by kernel_rfl)
instance : Fld Tryz.prog 109 0 0 25 := tqD
instance : Fld Tryz.prog 109 1 1 3 := tqD
instance : ZS Tryz.prog 109 (([(0, 1), (1, 1)] : List (Nat × Nat))[·]?) := ZX (by kernel_rfl)
instance : TyS Tryz.prog 110 := tqS
instance : Zu Tryz.prog 110 false := tqI
instance : YF Tryz.prog 110 := tqF
instance : ZK Tryz.prog 110 1 := tqN
instance : Zt Tryz.prog 110 8 := tqB
instance : Zw Tryz.prog 110 (.nilFunc) := tqO
instance : TyS Tryz.prog 111 := tqS
instance : Zu Tryz.prog 111 false := tqI
instance : YF Tryz.prog 111 := tqF
instance : ZK Tryz.prog 111 1 := tqN
instance : Zt Tryz.prog 111 8 := tqB
instance : Zw Tryz.prog 111 (.nilFunc) := tqO
instance : TyS Tryz.prog 119 := tqS
instance : Zu Tryz.prog 119 false := tqI
instance : YF Tryz.prog 119 := tqF
instance : ZK Tryz.prog 119 1 := tqN
instance : Zt Tryz.prog 119 8 := tqB
instance : Zw Tryz.prog 119 (.nilFunc) := tqO
instance : TyS Tryz.prog 124 := tqS
instance : Zu Tryz.prog 124 false := tqI
instance : ZK Tryz.prog 124 1 := tqN
instance : Zt Tryz.prog 124 24 := tqB
instance : Zw Tryz.prog 124 (.slice none 0 0) := tqO
instance : Yd Tryz.prog 124 4 := ⟨by kernel_rfl⟩
instance : TyS Tryz.prog 129 := tqS
instance : Zu Tryz.prog 129 false := tqI
instance : ZK Tryz.prog 129 1 := tqN
instance : Zt Tryz.prog 129 8 := tqB
instance : Zw Tryz.prog 129 (.pointer none) := tqO
instance : TyPtr Tryz.prog 129 3 := ⟨by kernel_rfl⟩
instance : TyS Tryz.prog 130 := tqS
instance : Zu Tryz.prog 130 false := tqI
instance : YF Tryz.prog 130 := tqF
instance : ZK Tryz.prog 130 1 := tqN
instance : Zt Tryz.prog 130 8 := tqB
instance : Zw Tryz.prog 130 (.nilFunc) := tqO
instance : TyS Tryz.prog 134 := tqS
instance : Zu Tryz.prog 134 false := tqI
instance : YF Tryz.prog 134 := tqF
instance : ZK Tryz.prog 134 1 := tqN
instance : Zt Tryz.prog 134 8 := tqB
instance : Zw Tryz.prog 134 (.nilFunc) := tqO
instance : TyS Tryz.prog 136 := tqS
instance : Zu Tryz.prog 136 false := tqI
instance : YF Tryz.prog 136 := tqF
instance : ZK Tryz.prog 136 1 := tqN
instance : Zt Tryz.prog 136 8 := tqB
instance : Zw Tryz.prog 136 (.nilFunc) := tqO
instance : TyS Tryz.prog 137 := tqS
instance : Zu Tryz.prog 137 false := tqI
instance : ZK Tryz.prog 137 1 := tqN
instance : Zt Tryz.prog 137 8 := tqB
instance : Zw Tryz.prog 137 (.map none) := tqO
instance : TyMap Tryz.prog 137 3 4 := ⟨by kernel_rfl⟩
instance : TyS Tryz.prog 139 := tqS
instance : Zu Tryz.prog 139 false := tqI
instance : YF Tryz.prog 139 := tqF
instance : ZK Tryz.prog 139 1 := tqN
instance : Zt Tryz.prog 139 8 := tqB
instance : Zw Tryz.prog 139 (.nilFunc) := tqO
instance : TyS Tryz.prog 140 := tqS
instance : Zu Tryz.prog 140 false := tqI
instance : YF Tryz.prog 140 := tqF
instance : ZK Tryz.prog 140 1 := tqN
instance : Zt Tryz.prog 140 8 := tqB
instance : Zw Tryz.prog 140 (.nilFunc) := tqO
instance : TyS Tryz.prog 148 := tqS
instance : Zu Tryz.prog 148 false := tqI
instance : ZK Tryz.prog 148 1 := tqN
instance : Zt Tryz.prog 148 8 := tqB
instance : Zw Tryz.prog 148 (.pointer none) := tqO
instance : TyPtr Tryz.prog 148 157 := ⟨by kernel_rfl⟩
instance : TyS Tryz.prog 155 := tqS
instance : Zu Tryz.prog 155 false := tqI
instance : ZK Tryz.prog 155 1 := tqN
instance : Zt Tryz.prog 155 24 := tqB
instance : Zw Tryz.prog 155 (.slice none 0 0) := tqO
instance : Yd Tryz.prog 155 5 := ⟨by kernel_rfl⟩
instance : TyA Tryz.prog 156 2 := tqA
instance : Zu Tryz.prog 156 false := tqI
instance : ZK Tryz.prog 156 2 := tqN
instance : Zt Tryz.prog 156 32 := tqB
instance : Zw Tryz.prog 156 (.agg ⟨[.slice none 0 0, .int .i64 0]⟩) := tqO
instance : Yc Tryz.prog 156 := ⟨by kernel_rfl⟩
instance : Fld Tryz.prog 156 0 0 155 := tqD
instance : Fld Tryz.prog 156 1 1 26 := tqD
instance : ZS Tryz.prog 156 (([(0, 1), (1, 1)] : List (Nat × Nat))[·]?) := ZX (by kernel_rfl)
instance : TyA Tryz.prog 157 2 := tqA
instance : Zu Tryz.prog 157 false := tqI
instance : ZK Tryz.prog 157 2 := tqN
instance : Zt Tryz.prog 157 32 := tqB
instance : Zw Tryz.prog 157 (.agg ⟨[.slice none 0 0, .int .i64 0]⟩) := tqO
instance : Yc Tryz.prog 157 := ⟨by kernel_rfl⟩
instance : TyFlds Tryz.prog 157 [(0, 155), (1, 26)] := XV (by kernel_rfl)
instance : Fld Tryz.prog 157 0 0 155 := tqD
instance : Fld Tryz.prog 157 1 1 26 := tqD
instance : ZS Tryz.prog 157 (([(0, 1), (1, 1)] : List (Nat × Nat))[·]?) := ZX (by kernel_rfl)
instance : TyS Tryz.prog 159 := tqS
instance : Zu Tryz.prog 159 false := tqI
instance : ZK Tryz.prog 159 1 := tqN
instance : Zt Tryz.prog 159 8 := tqB
instance : Zw Tryz.prog 159 (.pointer none) := tqO
instance : TyPtr Tryz.prog 159 171 := ⟨by kernel_rfl⟩
instance : TyA Tryz.prog 165 16 := tqA
instance : Zu Tryz.prog 165 false := tqI
instance : ZK Tryz.prog 165 16 := tqN
instance : Zt Tryz.prog 165 64 := tqB
instance : Zw Tryz.prog 165 (.agg ⟨List.replicate 16 (.int .u32 0)⟩) := tqO
instance : Yc Tryz.prog 165 := ⟨by kernel_rfl⟩
instance : Wl Tryz.prog 165 16 100 := ⟨by kernel_rfl⟩
instance : ZS Tryz.prog 165 (fun i => some (i * 1, 1)) := mkTyPlacesA (n := 16) (e := 100) (by kernel_rfl) (by kernel_rfl)
instance : TyS Tryz.prog 167 := tqS
instance : Zu Tryz.prog 167 false := tqI
instance : YF Tryz.prog 167 := tqF
instance : ZK Tryz.prog 167 1 := tqN
instance : Zt Tryz.prog 167 8 := tqB
instance : Zw Tryz.prog 167 (.nilFunc) := tqO
instance : TyS Tryz.prog 169 := tqS
instance : Zu Tryz.prog 169 false := tqI
instance : YF Tryz.prog 169 := tqF
instance : ZK Tryz.prog 169 1 := tqN
instance : Zt Tryz.prog 169 8 := tqB
instance : Zw Tryz.prog 169 (.nilFunc) := tqO
instance : TyA Tryz.prog 170 6 := tqA
instance : Zu Tryz.prog 170 false := tqI
instance : ZK Tryz.prog 170 6 := tqN
instance : Zt Tryz.prog 170 80 := tqB
instance : Zw Tryz.prog 170 (.agg ⟨[.pointer none, .int .i64 0, .bool false, .int .i64 0, .slice none 0 0, .slice none 0 0]⟩) := tqO
instance : Yc Tryz.prog 170 := ⟨by kernel_rfl⟩
instance : Fld Tryz.prog 170 0 0 148 := tqD
instance : Fld Tryz.prog 170 1 1 3 := tqD
instance : Fld Tryz.prog 170 2 2 4 := tqD
instance : Fld Tryz.prog 170 3 3 36 := tqD
instance : ZS Tryz.prog 170 (([(0, 1), (1, 1), (2, 1), (3, 3)] : List (Nat × Nat))[·]?) := ZX (by kernel_rfl)
instance : TyA Tryz.prog 171 6 := tqA
instance : Zu Tryz.prog 171 false := tqI
instance : ZK Tryz.prog 171 6 := tqN
instance : Zt Tryz.prog 171 80 := tqB
instance : Zw Tryz.prog 171 (.agg ⟨[.pointer none, .int .i64 0, .bool false, .int .i64 0, .slice none 0 0, .slice none 0 0]⟩) := tqO
instance : Yc Tryz.prog 171 := ⟨by kernel_rfl⟩
instance : TyFlds Tryz.prog 171 [(0, 148), (1, 3), (2, 4), (3, 36)] := XV (by kernel_rfl)
instance : Fld Tryz.prog 171 0 0 148 := tqD
instance : Fld Tryz.prog 171 1 1 3 := tqD
instance : Fld Tryz.prog 171 2 2 4 := tqD
instance : Fld Tryz.prog 171 3 3 36 := tqD
instance : ZS Tryz.prog 171 (([(0, 1), (1, 1), (2, 1), (3, 3)] : List (Nat × Nat))[·]?) := ZX (by kernel_rfl)
instance : TyS Tryz.prog 174 := tqS
instance : Zu Tryz.prog 174 false := tqI
instance : ZK Tryz.prog 174 1 := tqN
instance : Zt Tryz.prog 174 8 := tqB
instance : Zw Tryz.prog 174 (.map none) := tqO
instance : TyMap Tryz.prog 174 3 1 := ⟨by kernel_rfl⟩
instance : TyS Tryz.prog 177 := tqS
instance : Zu Tryz.prog 177 false := tqI
instance : YF Tryz.prog 177 := tqF
instance : ZK Tryz.prog 177 1 := tqN
instance : Zt Tryz.prog 177 8 := tqB
instance : Zw Tryz.prog 177 (.nilFunc) := tqO
instance : TyS Tryz.prog 179 := tqS
instance : Zu Tryz.prog 179 false := tqI
instance : YF Tryz.prog 179 := tqF
instance : ZK Tryz.prog 179 1 := tqN
instance : Zt Tryz.prog 179 8 := tqB
instance : Zw Tryz.prog 179 (.nilFunc) := tqO
instance : TyS Tryz.prog 190 := tqS
instance : Zu Tryz.prog 190 false := tqI
instance : YF Tryz.prog 190 := tqF
instance : ZK Tryz.prog 190 1 := tqN
instance : Zt Tryz.prog 190 8 := tqB
instance : Zw Tryz.prog 190 (.nilFunc) := tqO
instance : TyS Tryz.prog 191 := tqS
instance : Zu Tryz.prog 191 false := tqI
instance : ZK Tryz.prog 191 1 := tqN
instance : Zt Tryz.prog 191 8 := tqB
instance : Zw Tryz.prog 191 (.pointer none) := tqO
instance : TyPtr Tryz.prog 191 5 := ⟨by kernel_rfl⟩
instance : TyA Tryz.prog 194 11 := tqA
instance : Zu Tryz.prog 194 false := tqI
instance : ZK Tryz.prog 194 11 := tqN
instance : Zt Tryz.prog 194 48 := tqB
instance : Zw Tryz.prog 194 (.agg ⟨[.int .u64 0, .int .u64 0, .int .u32 0, .int .u8 0, .int .u8 0, .int .u8 0, .int .u8 0, .nilFunc, .pointer none, .int .i32 0, .int .i32 0]⟩) := tqO
instance : Yc Tryz.prog 194 := ⟨by kernel_rfl⟩
instance : Fld Tryz.prog 194 0 0 12 := tqD
instance : Fld Tryz.prog 194 1 1 12 := tqD
instance : Fld Tryz.prog 194 2 2 100 := tqD
instance : Fld Tryz.prog 194 3 3 188 := tqD
instance : Fld Tryz.prog 194 4 4 5 := tqD
instance : Fld Tryz.prog 194 5 5 5 := tqD
instance : Fld Tryz.prog 194 6 6 189 := tqD
instance : Fld Tryz.prog 194 7 7 190 := tqD
instance : Fld Tryz.prog 194 8 8 191 := tqD
instance : Fld Tryz.prog 194 9 9 192 := tqD
instance : Fld Tryz.prog 194 10 10 193 := tqD
instance : ZS Tryz.prog 194 (([(0, 1), (1, 1), (2, 1), (3, 1), (4, 1), (5, 1), (6, 1), (7, 1), (8, 1), (9, 1), (10, 1)] : List (Nat × Nat))[·]?) := ZX (by kernel_rfl)
instance : Fun Tryz.prog 4 := tqU
instance : Fun Tryz.prog 5 := tqU
instance : Fun Tryz.prog 6 := tqU
instance : Fun Tryz.prog 7 := tqU
instance : Fun Tryz.prog 8 := tqU
instance : Fun Tryz.prog 9 := tqU
instance : Fun Tryz.prog 10 := tqU
instance : Fun Tryz.prog 11 := tqU
instance : Fun Tryz.prog 12 := tqU
instance : Fun Tryz.prog 13 := tqU
instance : Fun Tryz.prog 14 := tqU
instance : Fun Tryz.prog 15 := tqU
instance : Fun Tryz.prog 16 := tqU
instance : Fun Tryz.prog 17 := tqU
instance : Fun Tryz.prog 18 := tqU
instance : Fun Tryz.prog 19 := tqU
instance : Fun Tryz.prog 20 := tqU
instance : Fun Tryz.prog 21 := tqU
instance : Fun Tryz.prog 22 := tqU
instance : Fun Tryz.prog 23 := tqU
instance : Fun Tryz.prog 24 := tqU
instance : Fun Tryz.prog 25 := tqU
instance : Fun Tryz.prog 26 := tqU
instance : Fun Tryz.prog 27 := tqU
instance : Fun Tryz.prog 28 := tqU
instance : Fun Tryz.prog 29 := tqU
instance : Fun Tryz.prog 30 := tqU
instance : Fun Tryz.prog 31 := tqU
instance : Fun Tryz.prog 32 := tqU
instance : Fun Tryz.prog 33 := tqU
instance : Fun Tryz.prog 34 := tqU
instance : Fun Tryz.prog 35 := tqU
instance : Fun Tryz.prog 36 := tqU
instance : Fun Tryz.prog 37 := tqU
instance : Fun Tryz.prog 38 := tqU
instance : Fun Tryz.prog 39 := tqU
instance : Fun Tryz.prog 40 := tqU
instance : Fun Tryz.prog 41 := tqU
instance : Fun Tryz.prog 42 := tqU
instance : Fun Tryz.prog 43 := tqU
instance : Fun Tryz.prog 44 := tqU
instance : Fun Tryz.prog 45 := tqU
instance : Fun Tryz.prog 46 := tqU
instance : Fun Tryz.prog 47 := tqU
instance : Fun Tryz.prog 48 := tqU
instance : Fun Tryz.prog 49 := tqU
instance : Fun Tryz.prog 50 := tqU
instance : Fun Tryz.prog 51 := tqU
instance : Fun Tryz.prog 52 := tqU
instance : Fun Tryz.prog 53 := tqU
instance : Fun Tryz.prog 54 := tqU
instance : Fun Tryz.prog 55 := tqU
instance : Fun Tryz.prog 56 := tqU
instance : Fun Tryz.prog 57 := tqU
instance : Fun Tryz.prog 58 := tqU
instance : Fun Tryz.prog 59 := tqU
instance : Fun Tryz.prog 60 := tqU
instance : Fun Tryz.prog 61 := tqU
instance : Fun Tryz.prog 62 := tqU
instance : Fun Tryz.prog 63 := tqU
instance : Fun Tryz.prog 64 := tqU
instance : Fun Tryz.prog 65 := tqU
instance : Fun Tryz.prog 66 := tqU
instance : Fun Tryz.prog 67 := tqU
instance : Fun Tryz.prog 68 := tqU
instance : Fun Tryz.prog 69 := tqU
instance : Fun Tryz.prog 70 := tqU
instance : Fun Tryz.prog 71 := tqU
instance : Fun Tryz.prog 72 := tqU
instance : Fun Tryz.prog 73 := tqU
instance : Fun Tryz.prog 74 := tqU
instance : Fun Tryz.prog 75 := tqU
instance : Fun Tryz.prog 76 := tqU
instance : Fun Tryz.prog 77 := tqU
instance : Fun Tryz.prog 78 := tqU
instance : Fun Tryz.prog 79 := tqU
instance : Fun Tryz.prog 80 := tqU
instance : Fun Tryz.prog 81 := tqU
instance : Fun Tryz.prog 82 := tqU
instance : Fun Tryz.prog 83 := tqU
instance : Fun Tryz.prog 84 := tqU
instance : Fun Tryz.prog 85 := tqU
instance : Fun Tryz.prog 86 := tqU
instance : Fun Tryz.prog 87 := tqU
instance : Fun Tryz.prog 88 := tqU
instance : Fun Tryz.prog 89 := tqU
instance : Fun Tryz.prog 90 := tqU
instance : Fun Tryz.prog 91 := tqU
instance : Fun Tryz.prog 92 := tqU
instance : Fun Tryz.prog 93 := tqU
instance : Fun Tryz.prog 94 := tqU
instance : Fun Tryz.prog 95 := tqU
instance : Fun Tryz.prog 96 := tqU
instance : Fun Tryz.prog 97 := tqU
instance : Fun Tryz.prog 98 := tqU
instance : Fun Tryz.prog 99 := tqU
instance : Fun Tryz.prog 100 := tqU
instance : Fun Tryz.prog 101 := tqU
instance : Fun Tryz.prog 102 := tqU
instance : Fun Tryz.prog 103 := tqU
instance : Fun Tryz.prog 104 := tqU
instance : Fun Tryz.prog 105 := tqU
instance : Fun Tryz.prog 106 := tqU
instance : Fun Tryz.prog 107 := tqU
instance : Fun Tryz.prog 108 := tqU
instance : Fun Tryz.prog 109 := tqU
instance : Fun Tryz.prog 110 := tqU
instance : Fun Tryz.prog 111 := tqU
instance : Fun Tryz.prog 112 := tqU
instance : Fun Tryz.prog 113 := tqU
instance : Fun Tryz.prog 114 := tqU
instance : Fun Tryz.prog 115 := tqU
instance : Fun Tryz.prog 116 := tqU
instance : Fun Tryz.prog 117 := tqU
instance : Fun Tryz.prog 118 := tqU
instance : Fun Tryz.prog 119 := tqU
instance : Fun Tryz.prog 120 := tqU
instance : Fun Tryz.prog 121 := tqU
instance : Fun Tryz.prog 122 := tqU
instance : Mixed Tryz.prog := ⟨by kernel_rfl⟩
end Go.Proofs.E
namespace Go.Proofs.E
open Go
set_option linter.unusedVariables false
set_option linter.unusedSimpArgs false
set_option linter.unusedSectionVars false
set_option maxRecDepth 4000
set_option maxHeartbeats 1000000
attribute [local irreducible] Yl TL TC TE Spec XM R1 Hp.le EnvLe TS TR YS Zo
def YD (x : Nat) : Nat := if x % 2 = 1 then (x / 2) ^^^ 2197175160 else x / 2
def hit : Nat → Nat → Nat
 | 0, x => x
 | j + 1, x => YD (hit j x)
theorem hstep_lt {x : Nat} (h : x < 4294967296) : YD x < 4294967296 := by
 unfold YD
 split
 ·exact Nat.xor_lt_two_pow (n := 32) (by omega) (by decide)
 ·omega
theorem hit_lt {x : Nat} (h : x < 4294967296) : ∀ j, hit j x < 4294967296
 | 0 => h
 | j + 1 => hstep_lt (hit_lt h j)
def tabV : List Value := (List.range 16).map fun n => .int .u32 (hit 4 n : Nat)
def tabU (i : Nat) : List Value := ((List.range i).map fun n => Value.int .u32 (hit 4 n : Nat)) ++ List.replicate (16 - i) (.int .u32 0)
theorem tabU_len {i : Nat} (h : i ≤ 16) : (tabU i).length = 16 := by simp [tabU]; omega
theorem stc_at (A B : List Value) (x y : Value) {i : Nat} (h : A.length = i) : stc (A ++ x :: B) (0 + i * 1) [y] = A ++ y :: B := by
 unfold stc
 rw [Nat.zero_add, Nat.mul_one, List.take_left' h]
 have hd : List.drop (i + [y].length) (A ++ x :: B) = B := by
  rw [List.drop_append, List.drop_eq_nil_of_le (by simp; omega)]
  simp [← h]
 rw [hd]; simp
theorem tabU_set {i : Nat} (h : i < 16) : stc (tabU i) (0 + i * 1) [Value.int .u32 (hit 4 i : Nat)] = tabU (i + 1) := by
 unfold tabU
 have e : 16 - i = (16 - (i + 1)) + 1 := by omega
 rw [e, List.replicate_succ, stc_at _ _ _ _ (by simp), List.range_succ, List.map_append]
 simp
theorem halves_spec (ρ : Hp) : Spec Tryz.prog 103 [] ρ [] (fun v ρ' L' => v = .agg ⟨tabV⟩ ∧ ρ' = ρ ∧ L' = []) := by
 refine Zf Tryz.func103 rfl rfl rfl fun u R => ?_
 simp only [Zv, List.cons_append, List.nil_append]
 repeat' (first | (refine Zg ?_; first | (refine Ze ?_; refine qQ ?_) | refine Zj ?_ | refine qAn ?_ | refine qXo ?_ | refine qNt ?_) | refine Za ?_ | (refine Zh ?_; refine Zq ?_) | (refine Zi ?_; refine Zr ?_) | intro _)
 rename_i b0 b1
 refine ZB [(0, _), (1, _)] (fun (ζ : (Nat) × (List Value)) => [(4, .int .i64 ζ.1)]) (fun (ζ : (Nat) × (List Value)) => ρ) (fun (ζ : (Nat) × (List Value)) => [[(b1, .cells ⟨ζ.2⟩ 165 (0, 0))]]) (fun (ζ : (Nat) × (List Value)) => ζ.1 ≤ 16 ∧ ζ.2 = tabU ζ.1) (fun (ζ : (Nat) × (List Value)) => 16 - ζ.1) ((0, List.replicate 16 (.int .u32 0))) (⟨Nat.zero_le _, rfl⟩) Zm Zm rfl tk ?_
 rintro ⟨i, cs⟩ hI
 try simp only [List.cons_append, List.nil_append, List.append_assoc, List.append_eq] at hI ⊢
 try dsimp only at hI ⊢
 obtain ⟨hi, rfl⟩ := hI
 have hcl := tabU_len hi
 by_cases hlt : i < 16
 ·have hst := tabU_set hlt
  repeat' (first | (refine Zg ?_; first | (refine Ze ?_; refine qQ ?_) | refine Zj ?_ | refine qAn ?_ | refine qXo ?_ | refine qNt ?_) | refine Za ?_ | (refine Zh ?_; refine Zq ?_) | (refine Zi ?_; refine Zr ?_) | intro _)
  refine ZB [(0, _), (1, _), (2, _), (4, _), (5, _), (6, _), (7, _), (8, _)] (fun (ζ : (Nat) × (Nat)) => [(9, .int .i64 ζ.1), (3, .int .u32 ζ.2)]) (fun (ζ : (Nat) × (Nat)) => ρ) (fun (ζ : (Nat) × (Nat)) => []) (fun (ζ : (Nat) × (Nat)) => ζ.1 ≤ 4 ∧ ζ.2 = hit ζ.1 i) (fun (ζ : (Nat) × (Nat)) => 4 - ζ.1) ((0, i)) (⟨Nat.zero_le _, rfl⟩) Zm Zm rfl tk ?_
  rintro ⟨j, y⟩ hI
  try simp only [List.cons_append, List.nil_append, List.append_assoc, List.append_eq] at hI ⊢
  try dsimp only at hI ⊢
  obtain ⟨hj, rfl⟩ := hI
  have hyl := hit_lt (x := i) (by omega) j
  by_cases hlj : j < 4
  ·generalize hy : hit j i = y at *
   have hand : andI (y : Int) 1 = ((y % 2 : Nat) : Int) := by simp [andI, Nat.and_one_is_mod]
   have hnx : hit (j + 1) i = YD y := by rw [← hy]; rfl
   unfold YD at hnx
   have hdv : ((y : Nat) : Int) / 2 ^ 1 = ((y / 2 : Nat) : Int) := by omega
   by_cases ho : y % 2 = 1
   ·rw [if_pos ho] at hnx
    have hxo : xorI ((y / 2 : Nat) : Int) 2197175160 = ((hit (j + 1) i : Nat) : Int) := by
     rw [hnx]
     show ((((y / 2 : Nat) : Int).toNat ^^^ (2197175160 : Int).toNat : Nat) : Int) = _
     rw [Int.toNat_natCast]; rfl
    rw [ho] at hand
    repeat' (first | (refine Zg ?_; first | (refine Ze ?_; refine qQ ?_) | refine Zj ?_ | refine qAn ?_ | refine qXo ?_ | refine qNt ?_) | refine Za ?_ | (refine Zh ?_; refine Zq ?_) | (refine Zi ?_; refine Zr ?_) | intro _)
    simp only [hdv, hxo]
    refine Zp (j + 1, _) (⟨hlj, rfl⟩) Zm Zm rfl tk inferInstance (by first | omega | (dsimp only; omega))
   ·rw [if_neg ho] at hnx
    rw [show y % 2 = 0 by omega] at hand
    repeat' (first | (refine Zg ?_; first | (refine Ze ?_; refine qQ ?_) | refine Zj ?_ | refine qAn ?_ | refine qXo ?_ | refine qNt ?_) | refine Za ?_ | (refine Zh ?_; refine Zq ?_) | (refine Zi ?_; refine Zr ?_) | intro _)
    simp only [hdv, ← hnx]
    refine Zp (j + 1, _) (⟨hlj, rfl⟩) Zm Zm rfl tk inferInstance (by first | omega | (dsimp only; omega))
  ·have h4 : j = 4 := by omega
   subst h4
   repeat' (first | (refine Zg ?_; first | (refine Ze ?_; refine qQ ?_) | refine Zj ?_ | refine qAn ?_ | refine qXo ?_ | refine qNt ?_) | refine Za ?_ | (refine Zh ?_; refine Zq ?_) | (refine Zi ?_; refine Zr ?_) | intro _)
   rw [hst]
   refine Zp (i + 1, _) (⟨hlt, rfl⟩) Zm Zm rfl tk inferInstance (by first | omega | (dsimp only; omega))
 ·have h16 : i = 16 := by omega
  subst h16
  have ht : tabU 16 = tabV := by simp [tabU, tabV]
  rw [ht] at hcl ⊢
  repeat' (first | (refine Zg ?_; first | (refine Ze ?_; refine qQ ?_) | refine Zj ?_ | refine qAn ?_ | refine qXo ?_ | refine qNt ?_) | refine Za ?_ | (refine Zh ?_; refine Zq ?_) | (refine Zi ?_; refine Zr ?_) | intro _)
  exact qE (L' := []) ⟨rfl, rfl, rfl⟩
def hal (l n : Nat) : Nat := (l / 16) ^^^ hit 4 ((l ^^^ n) &&& 15)
def byt (l : Nat) (c : UInt8) : Nat := hal (hal l (c.toNat &&& 15)) (c.toNat / 16)
def goesN (l : Nat) (b : List UInt8) : Nat := b.foldl byt l
def sumB (b : List UInt8) : Nat := 4294967295 ^^^ goesN 4294967295 b
theorem and15 (n : Nat) : n &&& 15 < 16 := Nat.lt_of_le_of_lt Nat.and_le_right (by decide)
theorem hal_lt {l n : Nat} (h : l < 4294967296) : hal l n < 4294967296 := by
 unfold hal
 exact Nat.xor_lt_two_pow (n := 32) (by omega) (hit_lt (by have := and15 (l ^^^ n); omega) 4)
theorem byt_lt {l : Nat} {c : UInt8} (h : l < 4294967296) : byt l c < 4294967296 := hal_lt (hal_lt h)
theorem goesN_lt : ∀ (b : List UInt8) {l : Nat}, l < 4294967296 → goesN l b < 4294967296
 | [], l, h => h
 | c :: r, l, h => by show goesN (byt l c) r < _; exact goesN_lt r (byt_lt h)
theorem sumB_lt (b : List UInt8) : sumB b < 4294967296 := Nat.xor_lt_two_pow (n := 32) (by decide) (goesN_lt b (by decide))
theorem tabV_len : tabV.length = 16 := by simp [tabV]
theorem tabV_at {i : Nat} (h : i < 16) : tabV[0 + i * 1]? = some (.int .u32 (hit 4 i : Nat)) := by
 simp [tabV, h]
theorem goes1_spec (ρ : Hp) (lb tb l n : Nat) (hl : l < 4294967296) (hn : n < 256) :
  Spec Tryz.prog 104 [.int .u8 n, .pointer (some ⟨lb, 0, none⟩), .pointer (some ⟨tb, 0, none⟩)] ρ [[(lb, .cells ⟨[.int .u32 l]⟩ 100 (0, 0))], [(tb, .cells ⟨tabV⟩ 165 (0, 0))]]
   (fun v ρ' L' => v = .tuple ⟨[]⟩ ∧ ρ' = ρ ∧ L' = [[(lb, .cells ⟨[.int .u32 (hal l n : Nat)]⟩ 100 (0, 0))], [(tb, .cells ⟨tabV⟩ 165 (0, 0))]]) := by
 have hx : xorI (l : Int) (n : Int) = ((l ^^^ n : Nat) : Int) := by simp [xorI]
 have hxl : l ^^^ n < 4294967296 := Nat.xor_lt_two_pow (n := 32) (by omega) (by omega)
 have ha : andI ((l ^^^ n : Nat) : Int) 15 = (((l ^^^ n) &&& 15 : Nat) : Int) := by simp [andI]
 have hal' := and15 (l ^^^ n)
 have hlen := tabV_len
 have hat := tabV_at hal'
 have hv := hit_lt (x := (l ^^^ n) &&& 15) (by omega) 4
 have hd : ((l : Nat) : Int) / 2 ^ 4 = ((l / 16 : Nat) : Int) := by omega
 have hr : xorI ((l / 16 : Nat) : Int) ((hit 4 ((l ^^^ n) &&& 15) : Nat) : Int) = ((hal l n : Nat) : Int) := by
  show (((((l / 16 : Nat) : Int).toNat) ^^^ (((hit 4 ((l ^^^ n) &&& 15) : Nat) : Int)).toNat : Nat) : Int) = _
  rw [Int.toNat_natCast, Int.toNat_natCast]; rfl
 generalize (l ^^^ n) &&& 15 = i at *
 have ha2 : andI (xorI (l : Int) (n : Int)) 15 = (i : Int) := by rw [hx, ha]
 have hat2 : tabV[0 + (andI (xorI (l : Int) (n : Int)) 15).toNat * 1]? = some (.int .u32 (hit 4 i : Nat)) := by rw [ha2, Int.toNat_natCast]; exact hat
 have hxb : 0 ≤ xorI (l : Int) (n : Int) ∧ xorI (l : Int) (n : Int) < 4294967296 := by omega
 refine Zf Tryz.func104 rfl rfl rfl fun u R => ?_
 simp only [Zv, List.cons_append, List.nil_append]
 refine ZD (Zo _ _ ([[(tb, .cells ⟨tabV⟩ 165 (0, 0))]])) (Zx (hT := tk) (Hp.le_refl _)) ?_
 all_goals (refine ZO 3 ?_; refine rCv 4 ?_)
 all_goals (refine Xh (i := 0) (j := 2) ?_ ?_ <;> ((try refine Zk ?_); (first | (refine Ze ?_; refine qQ ?_) | (refine Zj ?_; try intro _)) <;> ((try simp only [kM, kN, kO]); refine Za ?_; refine Zl ?_)))
 all_goals (first | refine rSr 1 ?_ | refine rXo 5 ?_)
 all_goals (first | refine rAn 6 ?_ | (refine Zn (i := 2) ?_; ((try refine Zk ?_); (first | (refine Ze ?_; refine qQ ?_) | (refine Zj ?_; try intro _)) <;> ((try simp only [kM, kN, kO]); refine Za ?_; refine Zl ?_))))
 all_goals (first | refine rXo 5 ?_ | refine rIa 7 ?_)
 all_goals (first | refine rAn 6 ?_ | refine rLd 8 ?_)
 all_goals (first | refine rIa 7 ?_ | (refine Zn (i := 0) ?_; ((try refine Zk ?_); (first | (refine Ze ?_; refine qQ ?_) | (refine Zj ?_; try intro _)) <;> ((try simp only [kM, kN, kO]); refine Za ?_; refine Zl ?_))))
 all_goals (first | refine rSr 1 ?_ | refine rLd 8 ?_)
 all_goals refine rXo 9 ?_
 all_goals (refine Zn (i := 10) ?_; ((try refine Zk ?_); (first | (refine Ze ?_; refine qQ ?_) | (refine Zj ?_; try intro _)) <;> ((try simp only [kM, kN, kO]); refine Za ?_; refine Zl ?_)))
 all_goals refine ZH ?_
 all_goals (repeat' (first | (refine Zg ?_; first | (refine Ze ?_; refine qQ ?_) | refine Zj ?_ | refine qAn ?_ | refine qXo ?_ | refine qNt ?_) | refine Za ?_ | (refine Zh ?_; refine Zq ?_) | (refine Zi ?_; refine Zr ?_) | intro _))
 all_goals simp only [hd, hr]
 all_goals exact qE (L' := [[(lb, _)], [(tb, _)]]) ⟨rfl, rfl, rfl⟩
theorem goes_spec (ρ : Hp) (l : Nat) (hl : l < 4294967296) (a : Option Addr) (n c : Nat) (b : List UInt8) (hb : SIn ρ Zs a n b) (hbig : n ≤ 1000000) :
  Spec Tryz.prog 94 [.int .u32 l, .slice a n c] ρ [] (fun v ρ' L' => v = .int .u32 (goesN l b : Nat) ∧ ρ' = ρ ∧ L' = []) := by
 have hlen := hb.len
 refine Zf Tryz.func94 rfl rfl rfl fun u R => ?_
 simp only [Zv, List.cons_append, List.nil_append]
 repeat' (first | (refine Zd (.func 103) ?_; refine qC rfl rfl (halves_spec _) ?_; rintro v ρ' L' hle ⟨rfl, rfl, rfl⟩ <;> (try simp only [kM, kN, kO])) | (refine Zg ?_; first | (refine Ze ?_; refine qQ ?_) | refine Zj ?_ | refine qAn ?_ | refine qXo ?_ | refine qNt ?_) | refine Za ?_ | (refine Zh ?_; refine Zq ?_) | (refine Zi ?_; refine Zr ?_) | intro _)
 rename_i lb tb
 refine ZB [(2, _), (4, _), (6, _), (11, _), (12, _)] (fun (ζ : (Nat) × (Nat)) => [(13, .int .i64 ζ.1)]) (fun (ζ : (Nat) × (Nat)) => ρ') (fun (ζ : (Nat) × (Nat)) => [[(tb, .cells ⟨tabV⟩ 165 (0, 0))], [(lb, .cells ⟨[.int .u32 ζ.2]⟩ 100 (0, 0))]]) (fun (ζ : (Nat) × (Nat)) => ζ.1 ≤ n ∧ ζ.2 < 4294967296 ∧ ζ.2 = goesN l (b.take ζ.1)) (fun (ζ : (Nat) × (Nat)) => n - ζ.1) ((0, l)) (⟨Nat.zero_le _, hl, rfl⟩) Zm Zm rfl tk ?_
 rintro ⟨i, y⟩ hI
 try simp only [List.cons_append, List.nil_append, List.append_assoc, List.append_eq] at hI ⊢
 try dsimp only at hI ⊢
 obtain ⟨hi, hy, hgo⟩ := hI
 by_cases hlt : i < n
 ·obtain ⟨bx, off, C, T, fr, rfl, hb1, hc1⟩ := hb.get (show i < b.length by omega)
  have hnx : goesN l (b.take (i + 1)) = byt y (b[i]'(by omega)) := by
   rw [hgo]; unfold goesN; rw [List.take_succ_eq_append_getElem (by omega), List.foldl_append]; rfl
  generalize b[i]'(by omega) = ch at *
  have hcl := ch.toNat_lt
  have hq1 : ch.toNat &&& 15 < 256 := by have := and15 ch.toNat; omega
  have hsh : ((ch.toNat : Nat) : Int) / 2 ^ 4 = ((ch.toNat / 16 : Nat) : Int) := by omega
  have hh := hal_lt (n := ch.toNat &&& 15) hy
  have hand : andI ((ch.toNat : Nat) : Int) 15 = ((ch.toNat &&& 15 : Nat) : Int) := by simp [andI]
  repeat' (first | (refine Zg ?_; first | (refine Ze ?_; refine qQ ?_) | refine Zj ?_ | refine qAn ?_ | refine qXo ?_ | refine qNt ?_) | refine Za ?_ | (refine Zh ?_; refine Zq ?_) | (refine Zi ?_; refine Zr ?_) | intro _)
  simp only [hand]
  repeat' (first | (refine Zd (.tmp 17) ?_; refine qC rfl rfl (goes1_spec _ lb tb y (ch.toNat &&& 15) hy hq1) ?_; rintro v ρ' L' hle ⟨rfl, rfl, rfl⟩ <;> (try simp only [kM, kN, kO])) | (refine Zd (.tmp 21) ?_; refine qC rfl rfl (goes1_spec _ lb tb (hal y (ch.toNat &&& 15)) (ch.toNat / 16) hh (by omega)) ?_; rintro v ρ' L' hle ⟨rfl, rfl, rfl⟩ <;> (try simp only [kM, kN, kO])) | (refine Zg ?_; first | (refine Ze ?_; refine qQ ?_) | refine Zj ?_ | refine qAn ?_ | refine qXo ?_ | refine qNt ?_) | refine Za ?_ | (refine Zh ?_; refine Zq ?_) | (refine Zi ?_; refine Zr ?_) | intro _)
  refine Zp (i + 1, byt y ch) (⟨hlt, byt_lt hy, hnx.symm⟩) Zm Zm rfl tk inferInstance (by first | omega | (dsimp only; omega))
 ·have hin : i = n := by omega
  subst hin
  rw [List.take_of_length_le (by omega)] at hgo
  repeat' (first | (refine Zg ?_; first | (refine Ze ?_; refine qQ ?_) | refine Zj ?_ | refine qAn ?_ | refine qXo ?_ | refine qNt ?_) | refine Za ?_ | (refine Zh ?_; refine Zq ?_) | (refine Zi ?_; refine Zr ?_) | intro _)
  rw [hgo]
  exact qE (L' := []) ⟨rfl, rfl, rfl⟩
theorem sum32_spec (ρ : Hp) (a : Option Addr) (n c : Nat) (b : List UInt8) (hb : SIn ρ Zs a n b) (hbig : n ≤ 1000000) :
  Spec Tryz.prog 60 [.slice a n c] ρ [] (fun v ρ' L' => v = .int .u32 (sumB b : Nat) ∧ ρ' = ρ ∧ L' = []) := by
 have hj : Spec Tryz.prog 85 [.int .u32 0, .slice a n c] ρ [] (fun v ρ' L' => v = .int .u32 (sumB b : Nat) ∧ ρ' = ρ ∧ L' = []) := by
  have h1 : xorI 4294967295 0 = ((4294967295 : Nat) : Int) := by simp [xorI]
  have hg := goesN_lt b (l := 4294967295) (by decide)
  have hgs := goes_spec ρ 4294967295 (by decide) a n c b hb hbig
  have h2 : xorI 4294967295 ((goesN 4294967295 b : Nat) : Int) = ((sumB b : Nat) : Int) := by
   show (((4294967295 : Int).toNat ^^^ ((goesN 4294967295 b : Nat) : Int).toNat : Nat) : Int) = _
   rw [Int.toNat_natCast]; rfl
  generalize goesN 4294967295 b = g at *
  refine Zf Tryz.func85 rfl rfl rfl fun u R => ?_
  simp only [Zv, List.cons_append, List.nil_append]
  repeat' (first | (refine Zg ?_; first | (refine Ze ?_; refine qQ ?_) | refine Zj ?_ | refine qAn ?_ | refine qXo ?_ | refine qNt ?_) | refine Za ?_ | (refine Zh ?_; refine Zq ?_) | (refine Zi ?_; refine Zr ?_) | intro _)
  simp only [h1]
  repeat' (first | (refine Zd (.func 94) ?_; refine qC rfl rfl (hgs) ?_; rintro v ρ' L' hle ⟨rfl, rfl, rfl⟩ <;> (try simp only [kM, kN, kO])) | (refine Zg ?_; first | (refine Ze ?_; refine qQ ?_) | refine Zj ?_ | refine qAn ?_ | refine qXo ?_ | refine qNt ?_) | refine Za ?_ | (refine Zh ?_; refine Zq ?_) | (refine Zi ?_; refine Zr ?_) | intro _)
  rw [h2]
  exact qE (L' := []) ⟨rfl, rfl, rfl⟩
 refine Zf Tryz.func60 rfl rfl rfl fun u R => ?_
 simp only [Zv, List.cons_append, List.nil_append]
 repeat' (first | (refine Zd (.func 85) ?_; refine qC rfl rfl (hj) ?_; rintro v ρ' L' hle ⟨rfl, rfl, rfl⟩ <;> (try simp only [kM, kN, kO])) | (refine Zg ?_; first | (refine Ze ?_; refine qQ ?_) | refine Zj ?_ | refine qAn ?_ | refine qXo ?_ | refine qNt ?_) | refine Za ?_ | (refine Zh ?_; refine Zq ?_) | (refine Zi ?_; refine Zr ?_) | intro _)
 exact qE (L' := []) ⟨rfl, rfl, rfl⟩
theorem hstep_bit (x k : Nat) : (YD x).testBit k = (x.testBit (k + 1) ^^ (x.testBit 0 && (2197175160).testBit k)) := by
 unfold YD
 rw [Nat.testBit_succ, Nat.testBit_zero]
 by_cases h : x % 2 = 1
 ·rw [if_pos h, Nat.testBit_xor, decide_eq_true h, Bool.true_and]
 ·rw [if_neg h, decide_eq_false h, Bool.false_and, Bool.xor_false]
theorem hstep_xor (a b : Nat) : YD (a ^^^ b) = YD a ^^^ YD b := by
 apply Nat.eq_of_testBit_eq
 intro k
 simp only [Nat.testBit_xor, hstep_bit]
 cases a.testBit (k + 1) <;> cases b.testBit (k + 1) <;> cases a.testBit 0 <;> cases b.testBit 0 <;> cases (2197175160).testBit k <;> rfl
theorem hit_xor (a b : Nat) : ∀ j, hit j (a ^^^ b) = hit j a ^^^ hit j b
 | 0 => rfl
 | j + 1 => by rw [hit, hit, hit, hit_xor a b j, hstep_xor]
theorem hstep_two (z : Nat) : YD (2 * z) = z := by
 unfold YD
 rw [if_neg (by omega)]
 omega
theorem hit_four (y : Nat) : hit 4 (16 * y) = y := by
 show YD (YD (YD (YD (16 * y)))) = y
 rw [show 16 * y = 2 * (2 * (2 * (2 * y))) by omega, hstep_two, hstep_two, hstep_two, hstep_two]
theorem nib_split {l n : Nat} (hn : n < 16) : l ^^^ n = (16 * (l / 16)) ^^^ ((l ^^^ n) &&& 15) := by
 apply Nat.eq_of_testBit_eq
 intro k
 have e1 : (16 * (l / 16)).testBit k = (decide (4 ≤ k) && l.testBit k) := by
  rw [show (16 : Nat) = 2 ^ 4 from rfl, Nat.testBit_two_pow_mul]
  by_cases h : 4 ≤ k
  ·rw [decide_eq_true h, Bool.true_and, Bool.true_and, Nat.testBit_div_two_pow]
   congr 1
   omega
  ·rw [decide_eq_false h, Bool.false_and, Bool.false_and]
 have e2 : (15 : Nat).testBit k = decide (k < 4) := Nat.testBit_two_pow_sub_one 4 k
 have e3 : 4 ≤ k → n.testBit k = false := fun h => Nat.testBit_lt_two_pow (Nat.lt_of_lt_of_le hn (by rw [show (16 : Nat) = 2 ^ 4 from rfl]; exact Nat.pow_le_pow_right (by decide) h))
 simp only [Nat.testBit_xor, Nat.testBit_and, e1, e2]
 by_cases h : 4 ≤ k
 ·rw [e3 h, decide_eq_true h, decide_eq_false (show ¬ k < 4 by omega)]
  simp
 ·rw [decide_eq_false h, decide_eq_true (show k < 4 by omega)]
  simp
theorem hal_eq {l n : Nat} (hn : n < 16) : hal l n = hit 4 (l ^^^ n) := by
 rw [nib_split hn, hit_xor, hit_four]
 rfl
def XR (l : Nat) (b : Bool) : Nat := YD (l ^^^ b.toNat)
theorem nib_bits {l : Nat} (b0 b1 b2 b3 : Bool) : hit 4 (l ^^^ (b0.toNat + 2 * b1.toNat + 4 * b2.toNat + 8 * b3.toNat)) = XR (XR (XR (XR l b0) b1) b2) b3 := by
 unfold XR
 simp only [hstep_xor, hit_xor]
 have e : hit 4 l = YD (YD (YD (YD l))) := rfl
 rw [e]
 simp only [Nat.xor_assoc]
 congr 1
 cases b0 <;> cases b1 <;> cases b2 <;> cases b3 <;> decide +kernel
def Yw (c : UInt8) : List Bool := (List.range 8).map fun k => c.toNat.testBit k
theorem lo_bits (m : Nat) : m &&& 15 = (m.testBit 0).toNat + 2 * (m.testBit 1).toNat + 4 * (m.testBit 2).toNat + 8 * (m.testBit 3).toNat := by
 have h : m &&& 15 = m % 16 := Nat.and_two_pow_sub_one_eq_mod m 4
 have t : ∀ k, (m.testBit k).toNat = m / 2 ^ k % 2 := fun k => by rw [Nat.testBit_eq_decide_div_mod_eq]; rcases Nat.mod_two_eq_zero_or_one (m / 2 ^ k) with h | h <;> simp [h]
 rw [h, t, t, t, t]
 omega
theorem hi_bits {m : Nat} (hm : m < 256) : m / 16 = (m.testBit 4).toNat + 2 * (m.testBit 5).toNat + 4 * (m.testBit 6).toNat + 8 * (m.testBit 7).toNat := by
 have t : ∀ k, (m.testBit k).toNat = m / 2 ^ k % 2 := fun k => by rw [Nat.testBit_eq_decide_div_mod_eq]; rcases Nat.mod_two_eq_zero_or_one (m / 2 ^ k) with h | h <;> simp [h]
 rw [t, t, t, t]
 omega
theorem byt_bits (l : Nat) (c : UInt8) : byt l c = (Yw c).foldl XR l := by
 have hc : c.toNat < 256 := c.toNat_lt
 unfold byt
 rw [hal_eq (show c.toNat / 16 < 16 by omega), hal_eq (Nat.lt_of_le_of_lt Nat.and_le_right (by decide)), hi_bits hc, lo_bits, nib_bits, nib_bits]
 rfl
theorem goes_bits : ∀ (bs : List UInt8) (l : Nat), goesN l bs = (bs.flatMap Yw).foldl XR l
 | [], l => rfl
 | c :: r, l => by
  show goesN (byt l c) r = _
  rw [goes_bits r, List.flatMap_cons, List.foldl_append, byt_bits]
def rowF (msg : List Bool) (reg i : Nat) : List Bool := (List.range msg.length).map fun j => if j < i then false else if j < i + 32 then (reg.testBit (j - i) ^^ msg.getD j false) else msg.getD j false
theorem rowF_at {msg : List Bool} {reg i j : Nat} (h : j < msg.length) : (rowF msg reg i)[j]? = some (if j < i then false else if j < i + 32 then (reg.testBit (j - i) ^^ msg.getD j false) else msg.getD j false) := by
 simp [rowF, h]
theorem rowF_top {msg : List Bool} {reg i : Nat} (h : i < msg.length) : (rowF msg reg i)[i]? = some (reg.testBit 0 ^^ msg.getD i false) := by
 rw [rowF_at h, if_neg (by omega), if_pos (by omega), Nat.sub_self]
def rowK (msg : List Bool) (reg i k : Nat) : List Bool := (List.range msg.length).map fun j => if j ≤ i then false else if j < i + 1 + k then ((YD (reg ^^^ (msg.getD i false).toNat)).testBit (j - i - 1) ^^ msg.getD j false) else if j < i + 32 then (reg.testBit (j - i) ^^ msg.getD j false) else msg.getD j false
theorem bstep_bit (reg : Nat) (b : Bool) (k : Nat) : (XR reg b).testBit k = (reg.testBit (k + 1) ^^ ((reg.testBit 0 ^^ b) && (2197175160).testBit k)) := by
 unfold XR
 rw [hstep_bit]
 have h1 : ∀ j, (b.toNat).testBit j = (decide (j = 0) && b) := fun j => by
  cases b
  ·simp
  ·cases j with
   | zero => rfl
   | succ j => simp [Nat.testBit_succ]
 rw [Nat.testBit_xor, Nat.testBit_xor, h1, h1]
 simp
end Go.Proofs.E
namespace Go.Proofs.E
open Go
set_option linter.unusedVariables false
set_option linter.unusedSimpArgs false
set_option linter.unusedSectionVars false
set_option maxRecDepth 4000
set_option maxHeartbeats 1000000
attribute [local irreducible] Yl TL TC TE Spec XM R1 Hp.le EnvLe TS TR YS Zo
abbrev Blk := List UInt8
abbrev YO := List (Blk × Option Blk)
def YR (s : YO) : List Value := (s.map fun p => p.1.map Zs).flatten
structure SecsOk (s : YO) : Prop where
 len : s.length ≤ 2048
 pos : 0 < s.length
 held : ∀ p ∈ s, p.1.length = 64
 cached : ∀ p ∈ s, ∀ c, p.2 = some c → c.length = 64
def bv (b : Blk) : Value := .agg ⟨b.map Zs⟩
structure MapOk (s : YO) (es : List MapEntry) : Prop where
 keys : YU .i64 es
 get : ∀ j : Int, Xq es j = if 0 ≤ j then ((s[j.toNat]?).bind (·.2)).map bv else none
structure HB where
 b : Nat
 cap : Nat
 sp : List Value
def dO (hb : HB) (mb n : Nat) (ops armed failing : Int) (dead : Bool) : Obj := .cells ⟨[.slice (some ⟨hb.b, 0, none⟩) n hb.cap, .map (some mb), .int .i64 ops, .int .i64 armed, .int .i64 failing, .bool dead]⟩ 69 (0, 0)
set_option maxHeartbeats 400000 in
set_option maxHeartbeats 400000 in
theorem lives_dead (ρ : Hp) (b : Nat) (hb : HB) (mb n : Nat) (ops armed failing : Int) : Spec Tryz.prog 69 [.pointer (some ⟨b, 0, none⟩)] ρ [[(b, dO hb mb n ops armed failing true)]] (fun v ρ' L' => v = .int .i64 9 ∧ ρ' = ρ ∧ L' = [[(b, dO hb mb n ops armed failing true)]]) := by
 refine Zf Tryz.func69 rfl rfl rfl fun u R => ?_
 simp only [Zv, List.cons_append, List.nil_append, dO]
 repeat' (first | (refine Zg ?_; first | (refine Ze ?_; refine qQ ?_) | refine Zj ?_) | refine Za ?_ | (refine Zh ?_; refine Zq ?_) | (refine Zi ?_; refine Zr ?_) | intro _)
 exact te_end rfl rfl rfl (by exact res1 rfl (ZY rfl)) (Hp.le_refl _) (by infer_instance) (by infer_instance) ⟨rfl, rfl, rfl⟩
set_option maxHeartbeats 400000 in
theorem lives_ok (ρ : Hp) (b : Nat) (hb : HB) (mb n : Nat) (ops armed failing : Int) : Spec Tryz.prog 69 [.pointer (some ⟨b, 0, none⟩)] ρ [[(b, dO hb mb n ops armed failing false)]] (fun v ρ' L' => v = .int .i64 0 ∧ ρ' = ρ ∧ L' = [[(b, dO hb mb n ops armed failing false)]]) := by
 refine Zf Tryz.func69 rfl rfl rfl fun u R => ?_
 simp only [Zv, List.cons_append, List.nil_append, dO]
 repeat' (first | (refine Zg ?_; first | (refine Ze ?_; refine qQ ?_) | refine Zj ?_) | refine Za ?_ | (refine Zh ?_; refine Zq ?_) | (refine Zi ?_; refine Zr ?_) | intro _)
 exact te_end rfl rfl rfl (by exact res1 rfl (ZY rfl)) (Hp.le_refl _) (by infer_instance) (by infer_instance) ⟨rfl, rfl, rfl⟩
theorem counts_dO4 (ρ : Hp) (b : Nat) (hb : HB) (mb n : Nat) (ops armed failing : Int) (dead : Bool) (h1 : -1 ≤ failing) (h2 : failing ≤ 9223372036854775807) :
  Spec Tryz.prog 70 [.pointer (some ⟨b, 4, none⟩)] ρ [[(b, dO hb mb n ops armed failing dead)]] (fun v ρ' L' => v = .bool (failing == 0) ∧ ρ' = ρ ∧ L' = [[(b, dO hb mb n ops armed (max (failing-1) (-1)) dead)]]) := by
 refine Zf Tryz.func70 rfl rfl rfl fun u R => ?_
 simp only [Zv, List.cons_append, List.nil_append, dO]
 repeat' (first | (refine Zg ?_; first | (refine Ze ?_; refine qQ ?_) | refine Zj ?_) | refine Za ?_ | (refine Zh ?_; refine Zq ?_) | (refine Zi ?_; refine Zr ?_) | intro _)
 exact qE ⟨rfl, rfl, rfl⟩
theorem counts_dO3 (ρ : Hp) (b : Nat) (hb : HB) (mb n : Nat) (ops armed failing : Int) (dead : Bool) (h1 : -1 ≤ armed) (h2 : armed ≤ 9223372036854775807) :
  Spec Tryz.prog 70 [.pointer (some ⟨b, 3, none⟩)] ρ [[(b, dO hb mb n ops armed failing dead)]] (fun v ρ' L' => v = .bool (armed == 0) ∧ ρ' = ρ ∧ L' = [[(b, dO hb mb n ops (max (armed-1) (-1)) failing dead)]]) := by
 refine Zf Tryz.func70 rfl rfl rfl fun u R => ?_
 simp only [Zv, List.cons_append, List.nil_append, dO]
 repeat' (first | (refine Zg ?_; first | (refine Ze ?_; refine qQ ?_) | refine Zj ?_) | refine Za ?_ | (refine Zh ?_; refine Zq ?_) | (refine Zi ?_; refine Zr ?_) | intro _)
 exact qE ⟨rfl, rfl, rfl⟩
theorem does_dead (ρ : Hp) (b : Nat) (hb : HB) (mb n : Nat) (ops armed failing i : Int) (d l : Value) : Spec Tryz.prog 45 [.pointer (some ⟨b, 0, none⟩), .int .i64 i, d, l] ρ [[(b, dO hb mb n ops armed failing true)]]
  (fun v ρ' L' => v = .int .i64 9 ∧ ρ' = ρ ∧ L' = [[(b, dO hb mb n ops armed failing true)]]) := by
 refine Zf Tryz.func45 rfl rfl rfl fun u R => ?_
 simp only [Zv, List.cons_append, List.nil_append]
 repeat' (first | (refine Zd (.func 69) ?_; refine qC rfl rfl (lives_dead _ _ _ _ _ _ _ _) ?_; rintro v ρ' L' hle ⟨rfl, rfl, rfl⟩ <;> (try simp only [kM, kN, kO])) | (refine Zg ?_; first | (refine Ze ?_; refine qQ ?_) | refine Zj ?_) | refine Za ?_ | (refine Zh ?_; refine Zq ?_) | (refine Zi ?_; refine Zr ?_) | intro _)
 exact qE ⟨rfl, rfl, rfl⟩
theorem does_arg (ρ : Hp) (b : Nat) (hb : HB) (mb n : Nat) (ops armed failing i : Int) (d l : Value) (hi : i < 0 ∨ (n : Int) ≤ i) : Spec Tryz.prog 45 [.pointer (some ⟨b, 0, none⟩), .int .i64 i, d, l] ρ [[(b, dO hb mb n ops armed failing false)]]
  (fun v ρ' L' => v = .int .i64 2 ∧ ρ' = ρ ∧ L' = [[(b, dO hb mb n ops armed failing false)]]) := by
 refine Zf Tryz.func45 rfl rfl rfl fun u R => ?_
 simp only [Zv, List.cons_append, List.nil_append]
 by_cases h0 : i < 0
 ·repeat' (first | (refine Zd (.func 69) ?_; refine qC rfl rfl (lives_ok _ _ _ _ _ _ _ _) ?_; rintro v ρ' L' hle ⟨rfl, rfl, rfl⟩ <;> (try simp only [kM, kN, kO, dO])) | (refine Zg ?_; first | (refine Ze ?_; refine qQ ?_) | refine Zj ?_) | refine Za ?_ | (refine Zh ?_; refine Zq ?_) | (refine Zi ?_; refine Zr ?_) | intro _)
  exact qE ⟨rfl, rfl, rfl⟩
 ·repeat' (first | (refine Zd (.func 69) ?_; refine qC rfl rfl (lives_ok _ _ _ _ _ _ _ _) ?_; rintro v ρ' L' hle ⟨rfl, rfl, rfl⟩ <;> (try simp only [kM, kN, kO, dO])) | (refine Zg ?_; first | (refine Ze ?_; refine qQ ?_) | refine Zj ?_) | refine Za ?_ | (refine Zh ?_; refine Zq ?_) | (refine Zi ?_; refine Zr ?_) | intro _)
  exact qE ⟨rfl, rfl, rfl⟩
theorem does_ok_r (ρ : Hp) (b : Nat) (hb : HB) (mb n : Nat) (ops armed failing i : Int) (kd : Nat) (cd : List Value) (X : SH) (Post : Value → Hp → SH → Prop) (h0 : 0 ≤ i) (h1 : i < n) (hf : failing ≠ 0) (hf1 : -1 ≤ failing) (hf2 : failing ≤ 9223372036854775807) [hF : Fun Tryz.prog kd]
  (hd : Spec Tryz.prog kd cd ρ ([(b, dO hb mb n (IntKind.i64.wrap (ops + 1)) armed (max (failing - 1) (-1)) false)] :: X) Post) :
  Spec Tryz.prog 45 [.pointer (some ⟨b, 0, none⟩), .int .i64 i, .func (.func kd) ⟨[]⟩ ⟨cd⟩, .nilFunc] ρ ([(b, dO hb mb n ops armed failing false)] :: X) (fun v ρ' L' => v = .int .i64 0 ∧ ∃ v0, Post v0 ρ' L') := by
 refine Zf Tryz.func45 rfl rfl rfl fun u R => ?_
 simp only [Zv, List.cons_append, List.nil_append]
 repeat' (first | (refine Zd (.func 69) ?_; refine qC rfl rfl (lives_ok _ _ _ _ _ _ _ _) ?_; rintro v ρ' L' hle ⟨rfl, rfl, rfl⟩ <;> (try simp only [kM, kN, kO, dO])) | (refine Zg ?_; first | (refine Ze ?_; refine qQ ?_) | refine Zj ?_) | refine Za ?_ | (refine Zh ?_; refine Zq ?_) | (refine Zi ?_; refine Zr ?_) | intro _)
 have hfb : (failing == 0) = false := by simpa using hf
 refine ZD (Zo _ _ ([])) (Zx (hT := tk) (Hp.le_refl _)) ?_
 all_goals (refine ZO 0 ?_; refine rNc 1 ?_; refine rFa 2 ?_; refine ZO 4 ?_; refine rCm 5 ?_)
 all_goals (refine Zn (i := 3) ?_; ((try refine Zk ?_); (first | (refine Zd (.func 70) ?_; refine qC rfl rfl (counts_dO4 _ _ _ _ _ _ _ _ _ hf1 hf2) ?_; rintro v ρ' L' hle ⟨rfl, rfl, rfl⟩ <;> (try simp only [kM, kN, kO, dO, hfb])) | (refine Zj ?_; try intro _)) <;> ((try simp only [kM, kN, kO]); refine Za ?_; refine Zl ?_)))
 all_goals (refine ZR ?_; refine ZO 6 ?_; (first | refine Zc 7 ?_ | refine Zb 7 ?_ | refine ZU 7 ?_); (first | refine Zc 8 ?_ | refine Zb 8 ?_ | refine wNc 8 ?_); (first | refine Zc 9 ?_ | refine Zb 9 ?_ | refine wFa 9 ?_); (first | refine Zc 10 ?_ | refine Zb 10 ?_ | refine wLd 10 ?_); (first | refine Zc 11 ?_ | refine Zb 11 ?_ | refine wCm 11 ?_); refine rPk 12 ?_; refine rAs 13 ?_; refine rAs 14 ?_; refine ZH ?_)
 unfold dO at hd
 repeat' (first | (refine Zd (.tmp 65) ?_; refine tl_call rfl rfl hd tk rfl ?_; rintro v ρ' L' hle hp) | (refine Zg ?_; first | (refine Ze ?_; refine qQ ?_) | refine Zj ?_) | refine Za ?_ | (refine Zh ?_; refine Zq ?_) | (refine Zi ?_; refine Zr ?_) | intro _)
 exact qE ⟨rfl, _, hp⟩
theorem does_ok_w (ρ : Hp) (b : Nat) (hb : HB) (mb n : Nat) (ops armed failing i : Int) (kd kl : Nat) (cd cl : List Value) (X : SH) (Post : Value → Hp → SH → Prop) (h0 : 0 ≤ i) (h1 : i < n) (hf : failing ≠ 0) (hf1 : -1 ≤ failing) (hf2 : failing ≤ 9223372036854775807)
  (ha : armed ≠ 0) (ha1 : -1 ≤ armed) (ha2 : armed ≤ 9223372036854775807) [hF : Fun Tryz.prog kd]
  (hd : Spec Tryz.prog kd cd ρ ([(b, dO hb mb n (IntKind.i64.wrap (ops + 1)) (max (armed - 1) (-1)) (max (failing - 1) (-1)) false)] :: X) Post) :
  Spec Tryz.prog 45 [.pointer (some ⟨b, 0, none⟩), .int .i64 i, .func (.func kd) ⟨[]⟩ ⟨cd⟩, .func (.func kl) ⟨[]⟩ ⟨cl⟩] ρ ([(b, dO hb mb n ops armed failing false)] :: X) (fun v ρ' L' => v = .int .i64 0 ∧ ∃ v0, Post v0 ρ' L') := by
 refine Zf Tryz.func45 rfl rfl rfl fun u R => ?_
 simp only [Zv, List.cons_append, List.nil_append]
 repeat' (first | (refine Zd (.func 69) ?_; refine qC rfl rfl (lives_ok _ _ _ _ _ _ _ _) ?_; rintro v ρ' L' hle ⟨rfl, rfl, rfl⟩ <;> (try simp only [kM, kN, kO, dO])) | (refine Zg ?_; first | (refine Ze ?_; refine qQ ?_) | refine Zj ?_) | refine Za ?_ | (refine Zh ?_; refine Zq ?_) | (refine Zi ?_; refine Zr ?_) | intro _)
 have hfb : (failing == 0) = false := by simpa using hf
 refine ZD (Zo _ _ ([])) (Zx (hT := tk) (Hp.le_refl _)) ?_
 all_goals (refine ZO 0 ?_; refine rNc 1 ?_; refine rFa 2 ?_; refine ZO 4 ?_; refine rCm 5 ?_)
 all_goals (refine Zn (i := 3) ?_; ((try refine Zk ?_); (first | (refine Zd (.func 70) ?_; refine qC rfl rfl (counts_dO4 _ _ _ _ _ _ _ _ _ hf1 hf2) ?_; rintro v ρ' L' hle ⟨rfl, rfl, rfl⟩ <;> (try simp only [kM, kN, kO, dO, hfb])) | (refine Zj ?_; try intro _)) <;> ((try simp only [kM, kN, kO]); refine Za ?_; refine Zl ?_)))
 all_goals (refine ZR ?_; refine ZO 6 ?_; (first | refine Zc 7 ?_ | refine Zb 7 ?_ | refine ZU 7 ?_); (first | refine Zc 8 ?_ | refine Zb 8 ?_ | refine wNc 8 ?_); (first | refine Zc 9 ?_ | refine Zb 9 ?_ | refine wFa 9 ?_); (first | refine Zc 10 ?_ | refine Zb 10 ?_ | refine wLd 10 ?_); (first | refine Zc 11 ?_ | refine Zb 11 ?_ | refine wCm 11 ?_); refine rPk 12 ?_; refine rAs 13 ?_; refine rAs 14 ?_; refine ZH ?_)
 unfold dO at hd
 repeat' (first | (refine Zd (.func 70) ?_; refine qC rfl rfl (counts_dO3 _ _ _ _ _ _ _ _ _ ha1 ha2) ?_; rintro v ρ' L' hle ⟨rfl, rfl, rfl⟩ <;> (try simp only [kM, kN, kO, dO])) | (refine Zd (.tmp 65) ?_; refine tl_call rfl rfl hd tk rfl ?_; rintro v ρ' L' hle hp) | (refine Zg ?_; first | (refine Ze ?_; refine qQ ?_) | refine Zj ?_) | refine Za ?_ | (refine Zh ?_; refine Zq ?_) | (refine Zi ?_; refine Zr ?_) | intro _)
 exact qE ⟨rfl, _, hp⟩
theorem does_fail_r (ρ : Hp) (b : Nat) (hb : HB) (mb n : Nat) (ops armed i : Int) (d : Value) (h0 : 0 ≤ i) (h1 : i < n) :
  Spec Tryz.prog 45 [.pointer (some ⟨b, 0, none⟩), .int .i64 i, d, .nilFunc] ρ [[(b, dO hb mb n ops armed 0 false)]] (fun v ρ' L' => v = .int .i64 8 ∧ ρ' = ρ ∧ L' = [[(b, dO hb mb n (IntKind.i64.wrap (ops + 1)) armed (-1) false)]]) := by
 refine Zf Tryz.func45 rfl rfl rfl fun u R => ?_
 simp only [Zv, List.cons_append, List.nil_append]
 repeat' (first | (refine Zd (.func 69) ?_; refine qC rfl rfl (lives_ok _ _ _ _ _ _ _ _) ?_; rintro v ρ' L' hle ⟨rfl, rfl, rfl⟩ <;> (try simp only [kM, kN, kO, dO])) | (refine Zg ?_; first | (refine Ze ?_; refine qQ ?_) | refine Zj ?_) | refine Za ?_ | (refine Zh ?_; refine Zq ?_) | (refine Zi ?_; refine Zr ?_) | intro _)
 refine ZD (Zo _ _ ([])) (Zx (hT := tk) (Hp.le_refl _)) ?_
 all_goals (refine ZO 0 ?_; refine rNc 1 ?_; refine rFa 2 ?_; refine ZO 4 ?_; refine rCm 5 ?_)
 all_goals (refine Zn (i := 3) ?_; ((try refine Zk ?_); (first | (refine Zd (.func 70) ?_; refine qC rfl rfl (counts_dO4 _ _ _ _ _ _ _ 0 _ (by decide) (by decide)) ?_; rintro v ρ' L' hle ⟨rfl, rfl, rfl⟩ <;> (try simp only [kM, kN, kO, dO])) | (refine Zj ?_; try intro _)) <;> ((try simp only [kM, kN, kO]); refine Za ?_; refine Zl ?_)))
 all_goals (refine ZR ?_; refine ZO 6 ?_; (first | refine Zc 7 ?_ | refine Zb 7 ?_ | refine ZU 7 ?_); (first | refine Zc 8 ?_ | refine Zb 8 ?_ | refine wNc 8 ?_); (first | refine Zc 9 ?_ | refine Zb 9 ?_ | refine wFa 9 ?_); (first | refine Zc 10 ?_ | refine Zb 10 ?_ | refine wLd 10 ?_); (first | refine Zc 11 ?_ | refine Zb 11 ?_ | refine wCm 11 ?_); refine rPk 12 ?_; refine rAs 13 ?_; refine rAs 14 ?_; refine ZH ?_)
 repeat' (first | (refine Zg ?_; first | (refine Ze ?_; refine qQ ?_) | refine Zj ?_) | refine Za ?_ | (refine Zh ?_; refine Zq ?_) | (refine Zi ?_; refine Zr ?_) | intro _)
 exact qE ⟨rfl, rfl, rfl⟩
theorem does_fail_w (ρ : Hp) (b : Nat) (hb : HB) (mb n : Nat) (ops armed i : Int) (d : Value) (kl : Nat) (cl : List Value) (h0 : 0 ≤ i) (h1 : i < n) (ha : armed ≠ 0) :
  Spec Tryz.prog 45 [.pointer (some ⟨b, 0, none⟩), .int .i64 i, d, .func (.func kl) ⟨[]⟩ ⟨cl⟩] ρ [[(b, dO hb mb n ops armed 0 false)]] (fun v ρ' L' => v = .int .i64 8 ∧ ρ' = ρ ∧ L' = [[(b, dO hb mb n (IntKind.i64.wrap (ops + 1)) armed (-1) false)]]) := by
 refine Zf Tryz.func45 rfl rfl rfl fun u R => ?_
 simp only [Zv, List.cons_append, List.nil_append]
 repeat' (first | (refine Zd (.func 69) ?_; refine qC rfl rfl (lives_ok _ _ _ _ _ _ _ _) ?_; rintro v ρ' L' hle ⟨rfl, rfl, rfl⟩ <;> (try simp only [kM, kN, kO, dO])) | (refine Zg ?_; first | (refine Ze ?_; refine qQ ?_) | refine Zj ?_) | refine Za ?_ | (refine Zh ?_; refine Zq ?_) | (refine Zi ?_; refine Zr ?_) | intro _)
 refine ZD (Zo _ _ ([])) (Zx (hT := tk) (Hp.le_refl _)) ?_
 all_goals (refine ZO 0 ?_; refine rNc 1 ?_; refine rFa 2 ?_; refine ZO 4 ?_; refine rCm 5 ?_)
 all_goals (refine Zn (i := 3) ?_; ((try refine Zk ?_); (first | (refine Zd (.func 70) ?_; refine qC rfl rfl (counts_dO4 _ _ _ _ _ _ _ 0 _ (by decide) (by decide)) ?_; rintro v ρ' L' hle ⟨rfl, rfl, rfl⟩ <;> (try simp only [kM, kN, kO, dO])) | (refine Zj ?_; try intro _)) <;> ((try simp only [kM, kN, kO]); refine Za ?_; refine Zl ?_)))
 all_goals (refine ZR ?_; refine ZO 6 ?_; (first | refine Zc 7 ?_ | refine Zb 7 ?_ | refine ZU 7 ?_); (first | refine Zc 8 ?_ | refine Zb 8 ?_ | refine wNc 8 ?_); (first | refine Zc 9 ?_ | refine Zb 9 ?_ | refine wFa 9 ?_); (first | refine Zc 10 ?_ | refine Zb 10 ?_ | refine wLd 10 ?_); (first | refine Zc 11 ?_ | refine Zb 11 ?_ | refine wCm 11 ?_); refine rPk 12 ?_; refine rAs 13 ?_; refine rAs 14 ?_; refine ZH ?_)
 repeat' (first | (refine Zg ?_; first | (refine Ze ?_; refine qQ ?_) | refine Zj ?_) | refine Za ?_ | (refine Zh ?_; refine Zq ?_) | (refine Zi ?_; refine Zr ?_) | intro _)
 exact qE ⟨rfl, rfl, rfl⟩
theorem does_dies (ρ : Hp) (b : Nat) (hb : HB) (mb n : Nat) (ops failing i : Int) (d : Value) (kl : Nat) (cl : List Value) (X : SH) (Post : Value → Hp → SH → Prop) (h0 : 0 ≤ i) (h1 : i < n) (hf1 : -1 ≤ failing) (hf2 : failing ≤ 9223372036854775807) [hF : Fun Tryz.prog kl]
  (hd : Spec Tryz.prog kl cl ρ ([(b, dO hb mb n (IntKind.i64.wrap (ops + 1)) 0 (max (failing - 1) (-1)) true)] :: X) Post) :
  Spec Tryz.prog 45 [.pointer (some ⟨b, 0, none⟩), .int .i64 i, d, .func (.func kl) ⟨[]⟩ ⟨cl⟩] ρ ([(b, dO hb mb n ops 0 failing false)] :: X) (fun v ρ' L' => v = .int .i64 9 ∧ ∃ v0, Post v0 ρ' L') := by
 refine Zf Tryz.func45 rfl rfl rfl fun u R => ?_
 simp only [Zv, List.cons_append, List.nil_append]
 repeat' (first | (refine Zd (.func 69) ?_; refine qC rfl rfl (lives_ok _ _ _ _ _ _ _ _) ?_; rintro v ρ' L' hle ⟨rfl, rfl, rfl⟩ <;> (try simp only [kM, kN, kO, dO])) | (refine Zg ?_; first | (refine Ze ?_; refine qQ ?_) | refine Zj ?_) | refine Za ?_ | (refine Zh ?_; refine Zq ?_) | (refine Zi ?_; refine Zr ?_) | intro _)
 refine ZD (Zo _ _ ([])) (Zx (hT := tk) (Hp.le_refl _)) ?_
 all_goals (refine ZO 0 ?_; refine rNc 1 ?_; refine rFa 2 ?_; refine ZO 4 ?_; refine rCm 5 ?_)
 all_goals (refine Zn (i := 3) ?_; ((try refine Zk ?_); (first | (refine Zd (.func 70) ?_; refine qC rfl rfl (counts_dO4 _ _ _ _ _ _ _ _ _ hf1 hf2) ?_; rintro v ρ' L' hle ⟨rfl, rfl, rfl⟩ <;> (try simp only [kM, kN, kO, dO])) | (refine Zj ?_; try intro _)) <;> ((try simp only [kM, kN, kO]); refine Za ?_; refine Zl ?_)))
 all_goals (refine ZR ?_; refine ZO 6 ?_; (first | refine Zc 7 ?_ | refine Zb 7 ?_ | refine ZU 7 ?_); (first | refine Zc 8 ?_ | refine Zb 8 ?_ | refine wNc 8 ?_); (first | refine Zc 9 ?_ | refine Zb 9 ?_ | refine wFa 9 ?_); (first | refine Zc 10 ?_ | refine Zb 10 ?_ | refine wLd 10 ?_); (first | refine Zc 11 ?_ | refine Zb 11 ?_ | refine wCm 11 ?_); refine rPk 12 ?_; refine rAs 13 ?_; refine rAs 14 ?_; refine ZH ?_)
 unfold dO at hd
 repeat' (first | (refine Zd (.tmp 55) ?_; refine tl_call rfl rfl hd tk rfl ?_; rintro v ρ' L' hle hp) | (refine Zg ?_; first | (refine Ze ?_; refine qQ ?_) | refine Zj ?_) | refine Za ?_ | (refine Zh ?_; refine Zq ?_) | (refine Zi ?_; refine Zr ?_) | intro _)
 exact qE ⟨rfl, _, hp⟩
end Go.Proofs.E
