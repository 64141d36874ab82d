/- The law PoolTells. Part 4 of 20. -/
import Derived.Test.YtobldeddiffjgaaGreatC3
namespace Go.Proofs.E
open Go
set_option linter.unusedVariables false
set_option linter.unusedSimpArgs false
def IterS (P : Program) (g : FuncId) (fs cs : List Value) {α : Type} (enc : Hp → α → List Value → Prop) (ρ0 : Hp) (S : List α → SH) (xs : List α) : Prop :=
 ∀ (l : Nat) (J : List α → Hp → SH → Prop) (Jx : List α → Hp → SH → Prop), (∀ pre ρ ρ' Lj, ρ.le ρ' → J pre ρ Lj → J pre ρ' Lj) →
  (∀ pre y vs ρ Lj, (pre ++ [y]) <+: xs → ρ0.le ρ → enc ρ y vs → J pre ρ Lj → XU P l vs ρ (S (pre ++ [y]) ++ Lj) (YP (S (pre ++ [y])) (J (pre ++ [y])) (Jx (pre ++ [y])))) →
  ∀ ρ Lj, ρ0.le ρ → J [] ρ Lj → Spec P g (fs ++ [.func (.yield l) ⟨[]⟩ ⟨[]⟩] ++ cs) ρ (S [] ++ Lj) (fun v ρ' L' => ∃ Lj', (L' = S xs ++ Lj' ∧ J xs ρ' Lj') ∨ ∃ pre, L' = S pre ++ Lj' ∧ Jx pre ρ' Lj')
section
variable {x : Cx} {Q : Exit → Act → World → Prop} {E : Env} {ρ ρ0 : Hp} {L : SH} {l : Nat} {r : Loop}
theorem tc_rangeFuncS {fo : Operand} {ps : List Nat} {assign body : Code} {g : Nat} {fs cs : List Value} {α : Type} {enc : Hp → α → List Value → Prop} {S : List α → SH} {L0 R0 R : SH} {xs : List α} (hro : x.ro = none)
  (hf : ev E fo = some (.func (.func g) ⟨fs⟩ ⟨cs⟩)) [hF : Yf x.P g] (hI : IterS x.P g fs cs enc ρ0 S xs) (hle : ρ0.le ρ) (hps : ∀ ρ y vs, enc ρ y vs → vs.length = ps.length) (hpN : ps.all (fun p => Nat.blt p x.N) = true)
  (J : List α → Hp → SH → Prop) (Jx : List α → Code → Hp → SH → Prop) (k1 : XB L (S []) R0) (k2 : XB R0 L0 R) (hM : ∀ pre ρ ρ' Lj, ρ.le ρ' → J pre ρ Lj → J pre ρ' Lj) (h0 : J [] ρ L0)
  (hround : ∀ l tm r pre y vs ρ' Lu u R', (pre ++ [y]) <+: xs → ρ0.le ρ' → enc ρ' y vs → J pre ρ' Lu → r.state = .ready → Rec tm ⟨ps⟩ assign body r →
   TC ⟨some l, x.P, u, [], x.N⟩ assign (Exit.then (KB x.P l body (RQ x.P u ρ' R' l (YP (S (pre ++ [y])) (JH l (Rec tm ⟨ps⟩ assign body) (J (pre ++ [y]))) (XH l (Rec tm ⟨ps⟩ assign body) (Jx (pre ++ [y])))))) QF)
    (envP ps vs E) ρ' ([(l, .loop r)] :: (S (pre ++ [y]) ++ (Lu ++ R'))))
  (hdone : ∀ D0 ρ' Lu, ρ.le ρ' → J xs ρ' Lu → TE { x with D := [{ target := .collected D0, args := #[] }] ++ x.D } .normal Q E ρ' ([(D0, .deferred (some []))] :: (S xs ++ (Lu ++ R))))
  (hstop : ∀ D0 pre c ρ' Lu, ρ.le ρ' → Jx pre c ρ' Lu → TC { x with D := [{ target := .collected D0, args := #[] }] ++ x.D } c Q E ρ' ([(D0, .deferred (some []))] :: (S pre ++ (Lu ++ R)))) :
  TC x (.rangeFunc fo ⟨ps⟩ assign body) Q E ρ L := fun a w ha hw => by
 obtain ⟨ro, P, u, D, N⟩ := x
 simp only at hro; subst hro
 dsimp only at *
 refine wpIn_rangeFunc fun fn _ => ?_
 have hw0 : Sat u ρ (S [] ++ (L0 ++ R)) w := hw.perm (by
  refine k1.out.trans ?_
  simp only [List.flatten_append]
  exact List.Perm.append_left _ (by simpa using k2.out))
 have hw1 := hw0.new (.deferred (some []))
 generalize hr0 : ({ state := .ready, pending := none, fn, tmps := a.tmps, params := ⟨ps⟩, assign, body, defers := w.heap.size } : Loop) = r0
 have hw2 := hw1.new (.loop r0)
 have hsz : ({ w with heap := w.heap.push (.deferred (some [])) } : World).heap.size = w.heap.size + 1 := by simp
 rw [hsz] at hw2
 have hrec0 : Rec a.tmps ⟨ps⟩ assign body r0 := by subst hr0; exact ⟨rfl, rfl, rfl, rfl⟩
 have hst0 : r0.state = .ready ∧ r0.pending = none := by subst hr0; exact ⟨rfl, rfl⟩
 have henter := run_enterLoop_outer (P := P) (w := w) fn a.tmps ⟨ps⟩ assign body
 rw [hr0] at henter
 have hres : (resolve a.eval (rangeCall fo (w.heap.size + 1)) 0).run P ((w.alloc (.deferred (some []))).alloc (.loop r0)) =
   .ok { target := .fn (.func g) ⟨cs⟩, args := ⟨fs ++ [.func (.yield (w.heap.size + 1)) ⟨[]⟩ ⟨[]⟩]⟩ } ((w.alloc (.deferred (some []))).alloc (.loop r0)) := by
  simp only [resolve, ha.eval hf, Deferred.ofValue, Sem.run_pure]
  simp [Act.eval]
 refine ⟨w.heap.size + 1, _, _, _, _, g, ⟨fs ++ [.func (.yield (w.heap.size + 1)) ⟨[]⟩ ⟨[]⟩] ++ cs⟩, (w.alloc (.deferred (some []))).alloc (.loop r0), henter, hres, fun _ _ => trivial, ?_, fun h => by simp [Fw, Fence.wide] at h, ?_⟩
 ·simp only [invoke]
  have := run_callFunc hF (⟨fs ++ [.func (.yield (w.heap.size + 1)) ⟨[]⟩ ⟨[]⟩]⟩ ++ ⟨cs⟩) ((w.alloc (.deferred (some []))).alloc (.loop r0))
  simpa using this
 generalize hl : w.heap.size + 1 = l at *
 generalize hD0 : w.heap.size = D0 at *
 have hy : ∀ pre y vs ρ' Lj, (pre ++ [y]) <+: xs → ρ0.le ρ' → enc ρ' y vs → JH l (Rec a.tmps ⟨ps⟩ assign body) (J pre) ρ' Lj → XU P l vs ρ' (S (pre ++ [y]) ++ Lj) (YP (S (pre ++ [y])) (JH l (Rec a.tmps ⟨ps⟩ assign body) (J (pre ++ [y]))) (XH l (Rec a.tmps ⟨ps⟩ assign body) (Jx (pre ++ [y])))) := by
  intro pre y vs ρ' Lj hpre hle' hen hJ
  obtain ⟨r, Lu, rfl, hrs, hrp, hrr, hJu⟩ := hJ
  intro u' R' w' hw'
  have hlr := hw'.here (l, .loop r) (by simp)
  have hargs : (⟨vs⟩ : Array Value).size = r.params.size := by rw [hrr.params]; simpa using hps _ _ _ hen
  refine ⟨_, _, _, _, run_yield hlr hargs, ?_⟩
  have hround' := hround l a.tmps r pre y vs ρ' Lu u' R' hpre hle' hen hJu hrs hrr
  have hsat : Sat u' ρ' ([(l, .loop r)] :: (S (pre ++ [y]) ++ (Lu ++ R'))) w' := hw'.perm (by simp)
  have hok : Ok [] N (envP ps vs E) { tmps := (r.params.zip ⟨vs⟩).foldl (fun tmps (t, a) => tmps.setIfInBounds t a) r.tmps, defers := [] } := by
   have h1 : Ok [] N E { tmps := a.tmps, defers := [] } := ⟨rfl, ha.size, ha.get⟩
   have := Ok.putP ps vs E a.tmps hpN h1
   rw [hrr.params, hrr.tmps]
   have e : ((⟨ps⟩ : Array Nat).zip ⟨vs⟩) = ⟨ps.zip vs⟩ := by simp
   rw [e]
   simpa using this
  have hwp := hround' _ w' hok hsat
  rw [hrr.assign, hrr.body]
  refine roundIn_of_wpIn (F := Fw none) (n := 0) trivial ?_
  exact hwp
 have hspec := hI l (fun pre => JH l (Rec a.tmps ⟨ps⟩ assign body) (J pre)) (fun pre => XH l (Rec a.tmps ⟨ps⟩ assign body) (Jx pre)) (fun pre ρ1 ρ2 Lj h12 ⟨r, Lu, e1, e2, e3, e4, e5⟩ => ⟨r, Lu, e1, e2, e3, e4, hM _ _ _ _ h12 e5⟩) hy ρ ([(l, .loop r0)] :: L0) hle ⟨r0, L0, rfl, hst0.1, hst0.2, hrec0, h0⟩
 have hcall := hspec u ([(D0, .deferred (some []))] :: R) ((w.alloc (.deferred (some []))).alloc (.loop r0)) (hw2.perm (by
  simp only [List.flatten_cons, List.flatten_append, List.append_assoc, List.cons_append, List.singleton_append, List.nil_append]
  refine List.Perm.trans (l₂ := (S []).flatten ++ ((l, .loop r0) :: (D0, .deferred (some [])) :: (L0.flatten ++ R.flatten))) ?_ ?_
  ·refine List.Perm.trans ?_ List.perm_middle.symm
   refine List.Perm.cons _ ?_
   exact List.perm_middle.symm
  ·refine List.Perm.append_left _ (List.Perm.cons _ ?_)
   exact List.perm_middle.symm))
 refine calls_ro (CallsIn.mono hcall ?_)
 rintro e w3 ⟨v, ρ', L', rfl, hle', hsat, Lj', hor⟩
 have perm4 : ∀ (S : SH) (c : List (Nat × Obj)) (Lu : SH), (S ++ (c :: Lu) ++ ([(D0, .deferred (some []))] :: R)).flatten.Perm (c :: ([(D0, .deferred (some []))] :: (S ++ (Lu ++ R)))).flatten := fun S c Lu => by
  simp only [List.flatten_cons, List.flatten_append, List.append_assoc, List.cons_append, List.singleton_append, List.nil_append]
  refine List.Perm.trans ?_ (List.Perm.append_left c (List.perm_middle (l₁ := S.flatten ++ Lu.flatten) (a := (D0, .deferred (some []))) (l₂ := R.flatten) |>.trans (by simp)))
  rw [← List.append_assoc, ← List.append_assoc c]
  refine List.Perm.trans (List.Perm.append_right _ List.perm_append_comm) ?_
  simp only [List.append_assoc]
  exact List.Perm.refl _
 rcases hor with ⟨rfl, r, Lu, rfl, hrs, hrp, hrr, hJu⟩ | ⟨pre, rfl, r, Lu, c, rfl, hrs, hrp, hrr, hJu⟩
 ·have hs1 := hsat.perm (perm4 _ [(l, .loop r)] Lu)
  have hlr := hs1.here (l, .loop r) (by simp)
  refine ⟨r.pending, _, run_endLoop hlr (by rw [hrs]; simp), ?_⟩
  rw [hrp]
  have hs2 := (hs1.put (.loop { r with state := .exhausted, pending := none })).sub (L' := [(D0, .deferred (some []))] :: (S xs ++ (Lu ++ R))) (by simp)
  exact hdone D0 ρ' Lu hle' hJu _ _ ⟨by simp [ha.defers], ha.size, ha.get⟩ hs2
 ·have hs1 := hsat.perm (perm4 _ [(l, .loop r)] Lu)
  have hlr := hs1.here (l, .loop r) (by simp)
  refine ⟨r.pending, _, run_endLoop hlr (by rw [hrs]; simp), ?_⟩
  rw [hrp]
  have hs2 := (hs1.put (.loop { r with state := .exhausted, pending := some c })).sub (L' := [(D0, .deferred (some []))] :: (S pre ++ (Lu ++ R))) (by simp)
  exact hstop D0 pre c ρ' Lu hle' hJu _ _ ⟨by simp [ha.defers], ha.size, ha.get⟩ hs2
end
end Go.Proofs.E
namespace Go.Proofs.E
open Go Go.RowKit
set_option linter.unusedVariables false
set_option linter.unusedSimpArgs false
set_option linter.unusedSectionVars false
set_option maxRecDepth 8000
def reachB (l : List Oper) : Nat → Nat → Nat → Bool
 | 0, _, _ => false
 | f + 1, i, k => ((l[i]?).map fun o => o.after.any fun e => Region.binds .any e && (e.on == k || reachB l f e.on k)).getD false
def guardB (c : Nat) (o : Oper) : Bool := match o.guard with | none => true | some (j, _) => decide (j < c)
def cutB (l : List Oper) (c : Nat) : Bool :=
 decide (c ≤ l.length) && (List.range l.length).all fun i =>
  if i < c then ((l[i]?).map fun o => o.after.all (fun e => !Region.binds .any e || decide (e.on < i)) && guardB c o).getD false
  else (List.range c).all fun k => reachB l 12 i k
def ClosedL (l : List Oper) (m : List Bool) : Prop := ∀ (j : Nat) (o : Oper), l[j]? = some o → m[j]? = some true → ∀ e ∈ o.after, Region.binds .any e = true → m[e.on]? = some true
theorem reach_ok {l : List Oper} {m : List Bool} (hc : ClosedL l m) : ∀ (f i k : Nat) (o : Oper), l[i]? = some o → (∀ e ∈ o.after, Region.binds .any e = true → m[e.on]? = some true) → reachB l f i k = true → m[k]? = some true
 | 0, _, _, _, _, _, h => by simp [reachB] at h
 | f + 1, i, k, o, ho, he, h => by
  simp only [reachB, ho, Option.map_some, Option.getD_some, Array.any_eq_true] at h
  obtain ⟨x, hx, h⟩ := h
  simp only [Bool.and_eq_true, Bool.or_eq_true, beq_iff_eq] at h
  have h1 := he _ (Array.getElem_mem hx) h.1
  rcases h.2 with h2 | h2
  ·rw [← h2]; exact h1
  ·cases ho2 : l[(o.after[x]).on]? with
   | none =>
    cases f with
    | zero => simp [reachB] at h2
    | succ f => simp [reachB, ho2] at h2
   | some o2 => exact reach_ok hc f _ k o2 ho2 (hc _ o2 ho2 h1) h2
theorem wpOpIn_cut {ro : Option Nat} {P : Program} {l : List Oper} {c i : Nat} {Q Q1 : Exit → Act → World → Prop} {K K' : Act → World → Prop} {a : Act} {w : World} (hi : i < c) (hg : ∀ o, l[i]? = some o → guardB c o = true) (hk : ∀ a w, K a w → K' a w)
  (h : wpOpIn (Fw ro) 0 P (l.take c).toArray (QN Q1) i K a w) : wpOpIn (Fw ro) 0 P l.toArray (QN Q) i K' a w := by
 unfold wpOpIn at h ⊢
 simp only [List.getElem?_toArray] at h ⊢
 rw [List.getElem?_take_of_lt hi] at h
 cases ho : l[i]? with
 | none => rw [ho] at h; exact hk _ _ h
 | some o =>
  rw [ho] at h
  simp only at h ⊢
  have hgo := hg o ho
  have hy : Region.wanted o (yielded (l.take c).toArray a.tmps) = Region.wanted o (yielded l.toArray a.tmps) := by
   unfold Region.wanted
   unfold guardB at hgo
   cases hgd : o.guard with
   | none => rfl
   | some jb =>
    obtain ⟨j, b⟩ := jb
    rw [hgd] at hgo
    simp only [decide_eq_true_eq] at hgo
    simp only [yielded, List.getElem?_toArray, List.getElem?_take_of_lt hgo]
  rw [hy] at h
  by_cases hw : Region.wanted o (yielded l.toArray a.tmps) = true
  ·simp only [hw, if_true] at h ⊢
   unfold Oper.wpIn at h ⊢
   refine ⟨h.1, ?_⟩
   have h2 := h.2
   generalize (o.semAt (Fw ro).round a.eval).run P w = r at *
   cases r with
   | ok n w' =>
    cases n <;> simp only [Oper.uponIn] at h2 ⊢ <;>
    first
     | exact hk _ _ h2
     | exact ⟨h2.1, CallsIn.mono h2.2 (fun e w'' he => by cases e <;> first | exact hk _ _ he | exact he.elim | exact (let ⟨_, _, q⟩ := he; q.elim))⟩
     | exact ⟨h2.1, RowsIn.mono h2.2 (fun _ _ he => hk _ _ he)⟩
     | exact ⟨h2.1, RoundIn.mono h2.2 (fun e w'' he => by cases e <;> first | exact hk _ _ he | exact he.elim | exact (let ⟨_, _, q⟩ := he; q.elim))⟩
   | halt x w' => cases x <;> simp only [Oper.uponIn] at h2 ⊢ <;> first | exact h2 | exact h2.elim
  ·simp only [hw] at h ⊢
   exact ⟨h.1, hk _ _ h.2⟩
theorem any_cut {ro : Option Nat} {P : Program} {l : List Oper} {c : Nat} {Q : Exit → Act → World → Prop} (hcut : cutB l c = true) :
  ∀ (fuel : Nat) (m : List Bool) (a : Act) (w : World), m.length = c → ClosedL l m → List.count false m = fuel →
   wpAnyIn (Fw ro) 0 P .any (l.take c).toArray (QN fun e a w => wpAnyIn (Fw ro) 0 P .any l.toArray (QN Q) (l.length - c) ⟨List.replicate c true ++ List.replicate (l.length - c) false⟩ a w) fuel ⟨m⟩ a w →
   wpAnyIn (Fw ro) 0 P .any l.toArray (QN Q) (fuel + (l.length - c)) ⟨m ++ List.replicate (l.length - c) false⟩ a w := by
 simp only [cutB, Bool.and_eq_true, decide_eq_true_eq, List.all_eq_true, List.mem_range] at hcut
 obtain ⟨hcl, hall⟩ := hcut
 intro fuel
 induction fuel with
 | zero =>
  intro m a w hm _ h0 H
  have hmt : m = List.replicate c true := by
   rw [List.eq_replicate_iff]
   refine ⟨hm, fun b hb => ?_⟩
   cases b with
   | true => rfl
   | false => exact absurd hb (List.count_eq_zero.1 h0)
  rw [Nat.zero_add, hmt]
  exact H.2
 | succ fuel ih =>
  intro m a w hm hcd h0 H
  have hA : fuel + 1 + (l.length - c) = (fuel + (l.length - c)) + 1 := by omega
  rw [hA]
  have hget : ∀ j, j < c → (m ++ List.replicate (l.length - c) false)[j]? = m[j]? := fun j hj => List.getElem?_append_left (by omega)
  have hge : ∀ j, c ≤ j → (m ++ List.replicate (l.length - c) false)[j]? ≠ some true := fun j hj h => by
   rw [List.getElem?_append_right (by omega)] at h
   rw [List.getElem?_replicate] at h
   split at h <;> simp at h
  have hlt : ∀ j, (m ++ List.replicate (l.length - c) false)[j]? = some true → m[j]? = some true := fun j h => by
   by_cases hj : j < c
   ·rw [hget j hj] at h; exact h
   ·exact absurd h (hge j (by omega))
  have hrd : ∀ i, i ∈ Region.ready .any l.toArray ⟨m ++ List.replicate (l.length - c) false⟩ → i < c ∧ m[i]? = some false ∧ i ∈ Region.ready .any (l.take c).toArray ⟨m⟩ ∧ ∃ o, l[i]? = some o ∧ ∀ e ∈ o.after, Region.binds .any e = true → m[e.on]? = some true := fun i hi => by
   obtain ⟨h1, o, ho, he⟩ := mem_ready.1 hi
   simp only [List.getElem?_toArray] at ho
   have he' : ∀ e ∈ o.after, Region.binds .any e = true → m[e.on]? = some true := fun e h2 h3 => by
    have := he e h2 h3
    apply hlt
    simp only [Array.getD_eq_getD_getElem?, List.getElem?_toArray] at this
    cases hq : (m ++ List.replicate (l.length - c) false)[e.on]? with
    | none => rw [hq] at this; simp at this
    | some b => rw [hq] at this; simp at this; rw [this]
   have hil : i < l.length := by
    rcases Nat.lt_or_ge i l.length with h | h
    ·exact h
    ·rw [List.getElem?_eq_none h] at ho; cases ho
   have hic : i < c := by
    rcases Nat.lt_or_ge i c with h | h
    ·exact h
    ·exfalso
     have hr := hall i hil
     rw [if_neg (by omega)] at hr
     simp only [List.all_eq_true, List.mem_range] at hr
     have hno : false ∉ m := fun hf => by
      obtain ⟨k, hk, hkf⟩ := List.getElem_of_mem hf
      have := reach_ok hcd 12 i k o ho he' (hr k (by omega))
      rw [List.getElem?_eq_getElem hk, hkf] at this
      cases this
     have := List.count_eq_zero.2 hno
     omega
   have hmi : m[i]? = some false := by
    simp only [Array.getD_eq_getD_getElem?, List.getElem?_toArray, hget i hic] at h1
    rw [List.getElem?_eq_getElem (show i < m.length by omega)] at h1 ⊢
    simpa using h1
   refine ⟨hic, hmi, mem_ready.2 ⟨by simp [Array.getD_eq_getD_getElem?, hmi], o, by simp [List.getElem?_take_of_lt hic, ho], fun e h2 h3 => by simp [Array.getD_eq_getD_getElem?, he' e h2 h3]⟩, o, ho, he'⟩
  refine ⟨fun hnil => ?_, fun i hi => ?_⟩
  ·exfalso
   have hmem : false ∈ m := by
    rcases Classical.em (false ∈ m) with h | h
    ·exact h
    ·have := List.count_eq_zero.2 h; omega
   have hex : ∃ k : Nat, m[k]? = some false ∧ ∀ j : Nat, j < k → m[j]? = some true := by
    have key : ∀ (m : List Bool), false ∈ m → ∃ k : Nat, m[k]? = some false ∧ ∀ j : Nat, j < k → m[j]? = some true := by
     intro m
     induction m with
     | nil => intro h; cases h
     | cons b r ih2 =>
      intro h
      cases b with
      | false => exact ⟨0, rfl, fun j hj => by omega⟩
      | true =>
       obtain ⟨k, h1, h2⟩ := ih2 (by simpa using h)
       refine ⟨k + 1, by simpa using h1, fun j hj => ?_⟩
       cases j with
       | zero => rfl
       | succ j => simpa using h2 j (by omega)
    exact key m hmem
   obtain ⟨k, hk, hlow⟩ := hex
   have hkc : k < c := by
    rcases Nat.lt_or_ge k m.length with h | h
    ·omega
    ·rw [List.getElem?_eq_none h] at hk; cases hk
   have hr := hall k (by omega)
   rw [if_pos hkc] at hr
   have hko : l[k]? = some l[k] := List.getElem?_eq_getElem (by omega)
   rw [hko] at hr
   simp only [Option.map_some, Option.getD_some, Bool.and_eq_true, Array.all_eq_true_iff_forall_mem, Bool.or_eq_true, Bool.not_eq_true', decide_eq_true_eq] at hr
   have : k ∈ Region.ready .any l.toArray ⟨m ++ List.replicate (l.length - c) false⟩ := by
    refine mem_ready.2 ⟨by simp [Array.getD_eq_getD_getElem?, hget k hkc, hk], l[k], by simp [hko], fun e h2 h3 => ?_⟩
    have hlt2 : e.on < k := by
     rcases hr.1 e h2 with h | h
     ·rw [h] at h3; cases h3
     ·exact h
    simp [Array.getD_eq_getD_getElem?, hget e.on (by omega), hlow e.on hlt2]
   rw [hnil] at this
   cases this
  ·obtain ⟨hic, hmi, hi1, o, ho, he⟩ := hrd i hi
   have hr := hall i (by omega)
   rw [if_pos hic, ho] at hr
   simp only [Option.map_some, Option.getD_some, Bool.and_eq_true] at hr
   refine wpOpIn_cut hic (fun o' ho' => by rw [ho] at ho'; cases ho'; exact hr.2) (fun a' w' h' => ?_) (H.2 i hi1)
   have hs1 : (⟨m⟩ : Array Bool).setIfInBounds i true = ⟨m.set i true⟩ := by simp
   have hs2 : (⟨m ++ List.replicate (l.length - c) false⟩ : Array Bool).setIfInBounds i true = ⟨m.set i true ++ List.replicate (l.length - c) false⟩ := by
    simp [List.set_append_left _ _ (show i < m.length by omega)]
   rw [hs1] at h'
   rw [hs2]
   refine ih (m.set i true) a' w' (by simpa using hm) (fun j oj hoj hj e h2 h3 => ?_) ?_ h'
   ·have hself : ∀ q, m[q]? = some true → (m.set i true)[q]? = some true := fun q hq => by
     rw [List.getElem?_set]
     split
     ·rename_i h; subst h; rw [hmi] at hq; cases hq
     ·exact hq
    by_cases hji : j = i
    ·subst hji
     rw [ho] at hoj; cases hoj
     exact hself _ (he e h2 h3)
    ·rw [List.getElem?_set_ne (fun h => hji h.symm)] at hj
     exact hself _ (hcd j oj hoj hj e h2 h3)
   ·have hlt3 : i < m.length := by omega
    have hmi2 : m[i] = false := by rw [List.getElem?_eq_getElem hlt3] at hmi; simpa using hmi
    rw [List.count_set (h := hlt3)]
    simp [hmi2]
    omega
section
variable {x : Cx} {Q : Exit → Act → World → Prop} {E : Env} {ρ : Hp} {L : SH} {l : List Oper}
def QPh (x : Cx) (l : List Oper) (c : Nat) (Q : Exit → Act → World → Prop) : Exit → Act → World → Prop :=
 fun _ a w => wpAnyIn (Fw x.ro) 0 x.P .any l.toArray (QN Q) (l.length - c) ⟨List.replicate c true ++ List.replicate (l.length - c) false⟩ a w
theorem tc_phase {id : Nat} (c : Nat) (S : World → Prop) [hm : Mixed x.P] (hcut : cutB l c = true) (hS : ∀ w, Sat x.u ρ L w → S w) (h : TR x (l.take c) S c (List.replicate c false) (QPh x l c Q) E ρ L) : TC x (.region id l.toArray true) Q E ρ L := fun a w ha hw => by
 refine wpIn_mono (Q := QN Q) ?_ (fun e a w q => by cases e <;> first | exact q | exact q.elim)
 refine wpIn_region_any hm.out ?_
 have h1 := h a _ ha hw.drew (hS _ hw.drew)
 have h2 := wpAnyIn_of_G _ _ _ _ h1
 have hcl : c ≤ l.length := by
  simp only [cutB, Bool.and_eq_true, decide_eq_true_eq] at hcut
  exact hcut.1
 have h3 := any_cut (Q := Q) hcut c (List.replicate c false) a _ (by simp) (fun j o _ hj => by
  rw [List.getElem?_replicate] at hj
  split at hj <;> simp at hj) (by simp) h2
 have e1 : c + (l.length - c) = l.length := by omega
 rw [e1, List.replicate_append_replicate, e1] at h3
 simpa using h3
theorem te_phase {c fuel : Nat} {m : List Bool} (S : World → Prop) (hf : l.length - c = fuel) (hm : List.replicate c true ++ List.replicate fuel false = m) (hS : ∀ w, Sat x.u ρ L w → S w) (h : TR x l S fuel m Q E ρ L) : TE x .normal (QPh x l c Q) E ρ L := fun a w ha hw => by
 subst hf
 subst hm
 exact wpAnyIn_of_G _ _ _ _ (h a w ha hw (hS w hw))
end
end Go.Proofs.E
namespace Go.Proofs.E
open Go Go.RowKit Go.WideShapes
set_option linter.unusedVariables false
set_option linter.unusedSimpArgs false
section
variable {H : Type} {enc : TypeId × Value → H} {P : Program} {w : World}
def OpnS (enc : TypeId × Value → H) (P : Program) (w : World) (t : TypeId) {α : Type} (R : List Value → α → Prop) : Prop :=
 ∀ fuel cs x, DataW.trod enc P w 0 (fun _ => true) true fuel t cs = some x → (∀ n ∈ x.1.weights P t, n ≤ reachBytes) → ∃ a, R cs a
theorem OpnS.mono {t : TypeId} {α β : Type} {R : List Value → α → Prop} {R' : List Value → β → Prop} (h : OpnS enc P w t R) (k : ∀ cs a, R cs a → ∃ b, R' cs b) : OpnS enc P w t R' := fun f cs x hx hw => by
 obtain ⟨a, ha⟩ := h f cs x hx hw
 exact k cs a ha
end
end Go.Proofs.E
namespace Go.Proofs.E
open Go
set_option linter.unusedVariables false
attribute [local irreducible] Yl TL TC TE Spec XU R1 Hp.le EnvLe TS TR YS Zr
section
variable {x : Cx} {E : Env} {ρ ρ0 : Hp} {L : SH} {v : Value}
theorem qF {e : Exit} {fn : Func} {u : World} {R : SH} {Post : Value → Hp → SH → Prop} {L' G : SH} (hp : Post v ρ L')
  (hr : ∀ a w, Ok x.D x.N E a → Sat x.u ρ L w → (results fn a.tmps).run x.P w = .ok v w := by
   first
   | exact res0 rfl
   | exact res1 rfl (Yt rfl)
   | exact res1 rfl (ZZ rfl (by first | assumption | rfl))
   | exact res1 rfl (ZJ rfl rfl)
   | exact res2 rfl (Yt rfl) (Yt rfl)
   | exact res2 rfl (Yt rfl) (ZZ rfl (by first | assumption | rfl))
   | exact res2 rfl (Yt rfl) (ZJ rfl rfl)
   | exact res2 rfl (ZZ rfl (by first | assumption | rfl)) (Yt rfl)
   | exact res2 rfl (ZZ rfl (by first | assumption | rfl)) (ZZ rfl (by first | assumption | rfl))
   | exact res2 rfl (ZZ rfl (by first | assumption | rfl)) (ZJ rfl rfl)
   | exact res2 rfl (ZJ rfl rfl) (Yt rfl)
   | exact res2 rfl (ZJ rfl rfl) (ZZ rfl (by first | assumption | rfl))
   | exact res2 rfl (ZJ rfl rfl) (ZJ rfl rfl)
   | exact Vn rfl (Yt rfl) (Yt rfl) (Yt rfl)
   | exact Vn rfl (Yt rfl) (Yt rfl) (ZZ rfl (by first | assumption | rfl))
   | exact Vn rfl (Yt rfl) (Yt rfl) (ZJ rfl rfl)
   | exact Vn rfl (Yt rfl) (ZZ rfl (by first | assumption | rfl)) (Yt rfl)
   | exact Vn rfl (Yt rfl) (ZZ rfl (by first | assumption | rfl)) (ZZ rfl (by first | assumption | rfl))
   | exact Vn rfl (Yt rfl) (ZZ rfl (by first | assumption | rfl)) (ZJ rfl rfl)
   | exact Vn rfl (Yt rfl) (ZJ rfl rfl) (Yt rfl)
   | exact Vn rfl (Yt rfl) (ZJ rfl rfl) (ZZ rfl (by first | assumption | rfl))
   | exact Vn rfl (Yt rfl) (ZJ rfl rfl) (ZJ rfl rfl)
   | exact Vn rfl (ZZ rfl (by first | assumption | rfl)) (Yt rfl) (Yt rfl)
   | exact Vn rfl (ZZ rfl (by first | assumption | rfl)) (Yt rfl) (ZZ rfl (by first | assumption | rfl))
   | exact Vn rfl (ZZ rfl (by first | assumption | rfl)) (Yt rfl) (ZJ rfl rfl)
   | exact Vn rfl (ZZ rfl (by first | assumption | rfl)) (ZZ rfl (by first | assumption | rfl)) (Yt rfl)
   | exact Vn rfl (ZZ rfl (by first | assumption | rfl)) (ZZ rfl (by first | assumption | rfl)) (ZZ rfl (by first | assumption | rfl))
   | exact Vn rfl (ZZ rfl (by first | assumption | rfl)) (ZZ rfl (by first | assumption | rfl)) (ZJ rfl rfl)
   | exact Vn rfl (ZZ rfl (by first | assumption | rfl)) (ZJ rfl rfl) (Yt rfl)
   | exact Vn rfl (ZZ rfl (by first | assumption | rfl)) (ZJ rfl rfl) (ZZ rfl (by first | assumption | rfl))
   | exact Vn rfl (ZZ rfl (by first | assumption | rfl)) (ZJ rfl rfl) (ZJ rfl rfl)
   | exact Vn rfl (ZJ rfl rfl) (Yt rfl) (Yt rfl)
   | exact Vn rfl (ZJ rfl rfl) (Yt rfl) (ZZ rfl (by first | assumption | rfl))
   | exact Vn rfl (ZJ rfl rfl) (Yt rfl) (ZJ rfl rfl)
   | exact Vn rfl (ZJ rfl rfl) (ZZ rfl (by first | assumption | rfl)) (Yt rfl)
   | exact Vn rfl (ZJ rfl rfl) (ZZ rfl (by first | assumption | rfl)) (ZZ rfl (by first | assumption | rfl))
   | exact Vn rfl (ZJ rfl rfl) (ZZ rfl (by first | assumption | rfl)) (ZJ rfl rfl)
   | exact Vn rfl (ZJ rfl rfl) (ZJ rfl rfl) (Yt rfl)
   | exact Vn rfl (ZJ rfl rfl) (ZJ rfl rfl) (ZZ rfl (by first | assumption | rfl))
   | exact Vn rfl (ZJ rfl rfl) (ZJ rfl rfl) (ZJ rfl rfl))
  (hle : ρ0.le ρ := by first | assumption | exact Hp.le_refl _ | (refine Hp.le_trans ?_ (by assumption); assumption) | solve_by_elim (maxDepth := 6) [Hp.le_trans]) (k : XB L L' G := by exact tk) (en : Ends G R := by infer_instance) (he : isEnd e = true := by rfl) (hD : x.D = [] := by rfl) (hu : x.u = u := by rfl) :
  TE x e (bodyPostM (Fw none) 0 x.P fn (RK u ρ0 R Post)) E ρ L := te_end he hD hu hr hle k en hp
end
theorem bool_eq {a b : Bool} (h : a = true ↔ b = true) : Value.bool a = Value.bool b := congrArg _ (Bool.eq_iff_iff.2 h)
class SetN (l : List Value) (off n : Nat) (vs : List Value) (l' : outParam (List Value)) : Prop where
 len : vs.length = n
 fit : off + n ≤ l.length
 out : stc l off vs = l'
instance SetN.nil {l : List Value} : SetN l 0 0 [] l := ⟨rfl, by simp, by simp [stc]⟩
instance SetN.cons {a v : Value} {r vs r' : List Value} {n : Nat} [h : SetN r 0 n vs r'] : SetN (a :: r) 0 (n + 1) (v :: vs) (v :: r') := ⟨by
 have := h.len; simp [this], by have := h.fit; simp at this ⊢; omega, by
 have := h.out
 simp only [stc, List.take_zero, List.nil_append, Nat.zero_add, List.length_cons, List.drop_succ_cons, List.cons_append] at this ⊢
 rw [this]⟩
instance SetN.drop {a : Value} {r vs r' : List Value} {o n : Nat} [h : SetN r o n vs r'] : SetN (a :: r) (o + 1) n vs (a :: r') := ⟨h.len, by
 have := h.fit; simp only [List.length_cons]; omega, by
 have := h.out
 simp only [stc, List.take_succ_cons, List.cons_append] at this ⊢
 rw [show o + 1 + vs.length = (o + vs.length) + 1 by omega, List.drop_succ_cons, this]⟩
class GetQ (pl : List (Nat × Nat)) (i : Nat) (off n : outParam Nat) : Prop where
 out : pl[i]? = some (off, n)
instance GetQ.zero {off n : Nat} {r : List (Nat × Nat)} : GetQ ((off, n) :: r) 0 off n := ⟨rfl⟩
instance GetQ.succ {p : Nat × Nat} {r : List (Nat × Nat)} {i off n : Nat} [h : GetQ r i off n] : GetQ (p :: r) (i + 1) off n := ⟨by simpa using h.out⟩
class CellsL (v : Value) (l : outParam (List Value)) : Prop where
 out : v.cells = ⟨l⟩
instance {l : List Value} : CellsL (.agg ⟨l⟩) l := ⟨rfl⟩
instance {k : IntKind} {n : Int} : CellsL (.int k n) [.int k n] := ⟨rfl⟩
instance {b : Bool} : CellsL (.bool b) [.bool b] := ⟨rfl⟩
instance {s : ByteArray} : CellsL (.string s) [.string s] := ⟨rfl⟩
instance {a : Option Addr} : CellsL (.pointer a) [.pointer a] := ⟨rfl⟩
instance {a : Option Addr} {n c : Nat} : CellsL (.slice a n c) [.slice a n c] := ⟨rfl⟩
instance {m : Option Nat} : CellsL (.map m) [.map m] := ⟨rfl⟩
class BuildM (pl : List (Nat × Nat)) (cells : List Value) (ps : List (Nat × Operand)) (vs : List Value) (out : outParam (List Value)) : Prop where
 out : Instr.fill (pl[·]?) ⟨cells⟩ ((ps.map (·.1)).zip vs) = some ⟨out⟩
instance BuildM.nil {pl : List (Nat × Nat)} {cells : List Value} : BuildM pl cells [] [] cells := ⟨rfl⟩
instance BuildM.cons {pl : List (Nat × Nat)} {cells cells' out : List Value} {i off n : Nat} {o : Operand} {ps : List (Nat × Operand)} {v : Value} {l vs : List Value} [h1 : GetQ pl i off n] [h0 : CellsL v l] [h2 : SetN cells off n l cells'] [h3 : BuildM pl cells' ps vs out] : BuildM pl cells ((i, o) :: ps) (v :: vs) out := ⟨by
 simp only [List.map_cons, List.zip_cons_cons]
 rw [fill_cons (pl := (pl[·]?)) h1.out h0.out h2.len h2.fit, h2.out]
 exact h3.out⟩
theorem Zn {x : Cx} {E : Env} {ρ : Hp} {L : SH} {ty : TypeId} {t : Nat} {pl : List (Nat × Nat)} {z out : List Value} {ps : List (Nat × Operand)} {vs : List Value} [hP : ZG x.P t (pl[·]?)] [hz : Zs x.P t (.agg ⟨z⟩)] (hv : evs E (ps.map (·.2)) = some vs) [hB : BuildM pl z ps vs out] :
  Yl x (.build t ⟨ps⟩) ty E ρ L (.agg ⟨out⟩) := Vz hv hB.out
theorem bq2 {a b c d : Int} : ((a == b) = (c == d)) ↔ (a = b ↔ c = d) := by
 rw [Bool.eq_iff_iff, beq_iff_eq, beq_iff_eq]
theorem bqt {a b : Int} : (true = (a == b)) ↔ a = b := by
 rw [eq_comm, beq_iff_eq]
theorem bqf {a b : Int} : (false = (a == b)) ↔ ¬ a = b := by
 rw [eq_comm, beq_eq_false_iff_ne]
end Go.Proofs.E
namespace Go.Proofs.E
open Go Go.Lib
set_option linter.unusedVariables false
set_option linter.unusedSimpArgs false
set_option linter.unusedSectionVars false
section
variable {x : Cx} {Q : Exit → Act → World → Prop} {E : Env} {ρ : Hp} {L L1 : SH} {ops : Array Oper} {rest : List Oper} {ty : TypeId} {pos : String} {af : Array Edge}
theorem GetL.get {l : List Value} {d : Nat} {v : Value} (h : GetL l d v) : l[d]? = some v := h.out
theorem TE.perm {e : Exit} {L' : SH} (h : TE x e Q E ρ L') (hL : L.flatten.Perm L'.flatten) : TE x e Q E ρ L := fun a w ha hw => h a w ha (hw.perm hL)
theorem TE.sub {e : Exit} {L' : SH} (h : TE x e Q E ρ L') (hL : List.Sublist L'.flatten L.flatten) : TE x e Q E ρ L := fun a w ha hw => h a w ha (hw.sub hL)
theorem TC.sub {c : Code} {L' : SH} (h : TC x c Q E ρ L') (hL : List.Sublist L'.flatten L.flatten) : TC x c Q E ρ L := fun a w ha hw => h a w ha (hw.sub hL)
theorem TL.sub {l : List Oper} {L' : SH} (h : TL x ops l Q E ρ L') (hL : List.Sublist L'.flatten L.flatten) : TL x ops l Q E ρ L := fun a w ha hw => h a w ha (hw.sub hL)
end
theorem Hp.up {ρ ρ' : Hp} (h : ρ.le ρ') {b : Nat} {o : Obj} (hb : ρ b = some o) : ρ' b = some o := h _ _ hb
section
variable {x : Cx} {Q : Exit → Act → World → Prop} {E : Env} {ρ : Hp} {L : SH} {ops : Array Oper} {rest : List Oper} {ty : TypeId} {pos : String} {af : Array Edge}
end
theorem Spec.freeze {P : Program} {f : FuncId} {args : List Value} {ρ : Hp} {L : SH} {Post : Value → Hp → SH → Prop} {Post2 : Value → Hp → Prop} (h : Spec P f args ρ L Post)
  (k : ∀ v ρ' L', ρ.le ρ' → Post v ρ' L' → ∀ ρ2, ρ'.le ρ2 → (∀ p ∈ L'.flatten, ρ2 p.1 = some p.2) → Post2 v ρ2) : Spec P f args ρ L (fun v ρ2 L2 => Post2 v ρ2 ∧ L2 = []) := fun u R w hw => by
 refine (h u R w hw).mono ?_
 rintro e w' ⟨v, ρ', L', h2, h3, h4, h5⟩
 have h6 : Sat u ρ' (L'.flatten :: R) w' := h4.perm (by simp)
 obtain ⟨h7, hle, hf⟩ := h6.freeze
 exact ⟨v, _, [], h2, Hp.le_trans h3 hle, h7, k v ρ' L' h3 h5 _ hle hf, rfl⟩
section
variable {x : Cx} {Q : Exit → Act → World → Prop} {E : Env} {ρ : Hp} {L L1 L2 : SH} {ops : Array Oper} {l : List Oper} {c d : List (Nat × Obj)} {e : Exit} {y : Code}
end
instance (priority := 1100) eqC_four {P : Program} {m t e : Nat} {k : IntKind} [hA : Ve P t 4 e] [hE : YZ P e k] [hS : TyS P e] {a b c d a' b' c' d' : Int} :
  EqC P (m + 2) t (.agg ⟨[.int k a, .int k b, .int k c, .int k d]⟩) (.agg ⟨[.int k a', .int k b', .int k c', .int k d']⟩) (decide (a = a' ∧ b = b' ∧ c = c' ∧ d = d')) := ⟨fun dd w hdd => by
 obtain ⟨dd, rfl⟩ : ∃ d', dd = d' + 2 := ⟨dd - 2, by omega⟩
 obtain ⟨ds, i, g1, g2, g3, g4⟩ := hS.out
 have hag : ∀ w, (isAgg e).run P w = .ok false w := fun w => by
  simp only [isAgg, underlying, Sem.run_bind, run_program, Result.andThen_ok, g1, Sem.run_pure]
  cases ds <;> simp_all
 have hcl : P.cellsOf e = 1 := by simp [Program.cellsOf, g3, g4]
 have hp : ∀ (x : Array Value) (j : Nat) (v : Value) (w : World), x[j]? = some v → (part e x j).run P w = .ok v w := fun x j v w h => by
  simp [part, hag, h]
 have hr := fun (x y : Int) (w : World) => run_equalIn_int (P := P) w dd e k k x y hE.out
 rw [run_equalIn_array w (dd + 1) _ _ hA.out g3, show List.range 4 = [0, 1, 2, 3] from rfl]
 have q0 := fun w => hp ⟨[.int k a, .int k b, .int k c, .int k d]⟩ 0 (.int k a) w rfl
 have q1 := fun w => hp ⟨[.int k a, .int k b, .int k c, .int k d]⟩ 1 (.int k b) w rfl
 have q2 := fun w => hp ⟨[.int k a, .int k b, .int k c, .int k d]⟩ 2 (.int k c) w rfl
 have q3 := fun w => hp ⟨[.int k a, .int k b, .int k c, .int k d]⟩ 3 (.int k d) w rfl
 have p0 := fun w => hp ⟨[.int k a', .int k b', .int k c', .int k d']⟩ 0 (.int k a') w rfl
 have p1 := fun w => hp ⟨[.int k a', .int k b', .int k c', .int k d']⟩ 1 (.int k b') w rfl
 have p2 := fun w => hp ⟨[.int k a', .int k b', .int k c', .int k d']⟩ 2 (.int k c') w rfl
 have p3 := fun w => hp ⟨[.int k a', .int k b', .int k c', .int k d']⟩ 3 (.int k d') w rfl
 simp only [Op.eqItems, Sem.run_bind, hcl, Nat.mul_one, q0, p0, q1, p1, q2, p2, q3, p3, Result.andThen_ok, hr]
 cases h0 : (a == a') <;> cases h1 : (b == b') <;> cases h2 : (c == c') <;> cases h3 : (d == d') <;> simp only [h0, h1, h2, h3, Bool.not_true, Bool.not_false, if_true, if_false, Bool.false_eq_true, Sem.run_bind, Sem.run_pure, q1, p1, q2, p2, q3, p3, hr, Result.andThen_ok, Op.eqItems]
 all_goals (congr 1; simp only [beq_iff_eq, beq_eq_false_iff_ne] at h0 h1 h2 h3; simp [h0, h1, h2, h3])⟩
end Go.Proofs.E
namespace Go.Proofs.E
open Go
set_option linter.unusedVariables false
set_option linter.unusedSimpArgs false
def UKeys (es : List MapEntry) : Prop := es.Pairwise (fun a b => a.key ≠ b.key)
theorem mget_none {es : List MapEntry} {k : Int} : YE es k = none ↔ ∀ e ∈ es, ∀ kk, e.key ≠ .int kk k := by
 unfold YE
 rw [Option.map_eq_none_iff, List.find?_eq_none]
 constructor
 ·intro h e he kk hk
  have := h e he
  rw [hk] at this
  simp at this
 ·intro h e he hc
  cases hk : e.key <;> rw [hk] at hc <;> simp at hc
  subst hc
  exact h e he _ hk
theorem UKeys.add {es : List MapEntry} {x : MapEntry} (h : UKeys es) (hx : ∀ e ∈ es, ¬ e.key = x.key) : UKeys (es ++ [x]) := by
 unfold UKeys
 rw [List.pairwise_append]
 exact ⟨h, List.pairwise_singleton _ _, fun a ha b hb => by rw [List.mem_singleton.1 hb]; exact hx a ha⟩
theorem UKeys.mod {kk : IntKind} {k : Int} {v : Value} {pre post : List MapEntry} {e : MapEntry} (h : UKeys (pre ++ e :: post)) (hk : e.key = .int kk k) : UKeys (pre ++ { e with key := .int kk k, val := v } :: post) := by
 unfold UKeys at h ⊢
 rw [List.pairwise_append, List.pairwise_cons] at h ⊢
 obtain ⟨h1, ⟨h2, h3⟩, h4⟩ := h
 refine ⟨h1, ⟨fun b hb => by rw [← hk]; exact h2 b hb, h3⟩, fun a ha b hb => ?_⟩
 rcases List.mem_cons.1 hb with rfl | hb
 ·show a.key ≠ .int kk k
  rw [← hk]; exact h4 a ha e (by simp)
 ·exact h4 a ha b (by simp [hb])
theorem UKeys.del {pre post : List MapEntry} {e : MapEntry} (h : UKeys (pre ++ e :: post)) : UKeys (pre ++ post) ∧ ∀ x ∈ post, x.key ≠ e.key := by
 unfold UKeys at h ⊢
 rw [List.pairwise_append, List.pairwise_cons] at h
 obtain ⟨h1, ⟨h2, h3⟩, h4⟩ := h
 exact ⟨List.pairwise_append.2 ⟨h1, h3, fun a ha b hb => h4 a ha b (by simp [hb])⟩, fun x hx hc => h2 x hx hc.symm⟩
section
variable {x : Cx} {Q : Exit → Act → World → Prop} {E : Env} {ρ ρ0 : Hp} {L : SH} {ops : Array Oper} {rest : List Oper} {ty : TypeId} {pos : String} {af : Array Edge}
theorem run_mapUpdate_u {P : Program} {t kt e : TypeId} {kk : IntKind} (hM : WO P t kt e) (hK : YZ P kt kk) {w : World} {b : Nat} {es : List MapEntry} {ck : Nat}
  (hb : w.heap[b]? = some (.map ⟨es⟩ ck)) (hes : Yg kk es) (hu : UKeys es) (k : Int) (v : Value) :
  ∃ es' ck', (Instr.mapUpdate t (.map (some b)) (.int kk k) v).run P w = .ok () (Vm w b (.map ⟨es'⟩ ck')) ∧ Yg kk es' ∧ UKeys es' ∧ ∀ j, YE es' j = if j = k then some v else YE es j := by
 have hck := fun e => WH hK e k w
 have hfk : (Instr.findKey kt (.int kk k) es).run P w = .ok ((Instr.findNow (.int kk) (.int kk k) es 0).getD none) w ∧ True := by
  refine ⟨?_, trivial⟩
  simp only [Instr.findKey, Sem.run_bind, underlying, run_program, Result.andThen_ok, hK.out, Sem.run_pure]
  rcases XW (k := k) es 0 hes with ⟨h1, h2⟩ | ⟨pre, e', post, h0, h1, h2, h3, h4⟩
  ·simp [h2]
  ·simp [h4]
 rcases XW (k := k) es 0 hes with ⟨h1, h2⟩ | ⟨pre, e', post, rfl, h1, h2, h3, h4⟩
 ·rw [h2] at hfk
  refine ⟨es ++ [{ key := .int kk k, val := v, born := ck }], ck + 1, ?_, ?_, hu.add (fun e he hk => ?_), ?_⟩
  rotate_left 2
  ·exact (mget_none.1 h1) e he kk hk
  rotate_right 2
  ·simp [Instr.mapUpdate, underlying, hM.out, MapKept.run_getObj_map hb, hck, hfk.1, MapKept.run_setObj_map _ hb, Vm]
  ·intro e he
   rcases List.mem_append.1 he with he | he
   ·exact hes e he
   ·simp only [List.mem_singleton] at he; subst he; exact ⟨k, rfl⟩
  ·intro j
   rw [Wk]
   by_cases hj : j = k
   ·subst hj; rw [h1]; simp [YE]
   ·rw [if_neg hj]
    have : YE [({ key := .int kk k, val := v, born := ck } : MapEntry)] j = none := by
     have : (k == j) = false := by simpa using fun e : k = j => hj e.symm
     simp [YE, this]
    rw [this]; simp
 ·rw [h4] at hfk
  have hstay : (Instr.keyThatStays (.int kk k) (.int kk k)).run P w = .ok (.int kk k) w := by
   have : Instr.sameBits 10000 (.int kk k) (.int kk k) = true := by simp [Instr.sameBits]
   simp [Instr.keyThatStays, this]
  refine ⟨pre ++ { e' with key := .int kk k, val := v } :: post, ck, ?_, ?_, UKeys.mod hu h1, ?_⟩
  ·have hmod : (Array.mk (pre ++ e' :: post)).modify pre.length (fun e => { e with key := .int kk k, val := v }) = ⟨pre ++ { e' with key := .int kk k, val := v } :: post⟩ := by
    apply Array.ext_getElem?
    intro i
    rw [Array.getElem?_modify]
    simp only [List.getElem?_toArray]
    rcases Nat.lt_trichotomy i pre.length with hi | hi | hi
    ·rw [if_neg (by omega), List.getElem?_append_left hi, List.getElem?_append_left hi]
    ·subst hi; simp
    ·rw [if_neg (by omega), List.getElem?_append_right (by omega), List.getElem?_append_right (by omega)]
     have : i - pre.length = (i - pre.length - 1) + 1 := by omega
     rw [this]; simp
   have hmod' := congrArg Array.toList hmod
   simp only [Array.toList_modify] at hmod'
   simp [Instr.mapUpdate, underlying, hM.out, MapKept.run_getObj_map hb, hck, hfk.1, MapKept.run_setObj_map _ hb, Vm, h1, hstay, hmod']
  ·intro e he
   rcases List.mem_append.1 he with he | he
   ·exact hes e (by simp [he])
   ·rcases List.mem_cons.1 he with rfl | he
    ·exact ⟨k, rfl⟩
    ·exact hes e (by simp [he])
  ·intro j
   rw [Wk, Wk]
   by_cases hj : j = k
   ·subst hj; rw [h2]; simp [YE]
   ·rw [if_neg hj]
    have hkj : (k == j) = false := by simpa using fun e : k = j => hj e.symm
    congr 1
    simp [YE, List.find?_cons, h1, hkj]
theorem WS {m i p : Operand} {t kt e b : Nat} {kk : IntKind} {es : List MapEntry} {ck : Nat} {k : Int} {v : Value} {f : Obj → SH} (hm : ev E m = some (.map (some b))) (hi : ev E i = some (.int kk k)) (hp : ev E p = some v)
  [hM : WO x.P t kt e] [hK : YZ x.P kt kk] [hU : Upd b L (.map ⟨es⟩ ck) f] (hes : Yg kk es) (hu : UKeys es)
  (kk' : ∀ es' ck', Yg kk es' → UKeys es' → (∀ j, YE es' j = if j = k then some v else YE es j) → TL x ops rest Q E ρ (f (.map ⟨es'⟩ ck'))) :
  TL x ops (⟨none, .mapUpdate t m i p, ty, pos, af, none⟩ :: rest) Q E ρ L := fun a w ha hw => by
 refine Ys rfl rfl ?_
 obtain ⟨es', ck', hrun, h1, h2, h3⟩ := run_mapUpdate_u hM hK (hw.upd hU (.map ⟨es⟩ ck)).2 hes hu k v
 have hs := (hw.upd hU (.map ⟨es'⟩ ck')).1
 have : (execOp a.eval ⟨none, .mapUpdate t m i p, ty, pos, af, none⟩).run x.P w = .ok .skip (Vm w b (.map ⟨es'⟩ ck')) := by
  simp only [execOp, ha.eval hm, ha.eval hi, ha.eval hp, Sem.run_bind, hrun, Result.andThen_ok, Sem.run_pure]
 rw [this]
 exact kk' es' ck' h1 h2 h3 _ _ (ha.put_none undef) hs
theorem run_delete_u {P : Program} {t kt e ty : TypeId} {kk : IntKind} (hM : WO P t kt e) (hK : YZ P kt kk) {w : World} {b : Nat} {es : List MapEntry} {ck : Nat}
  (hb : w.heap[b]? = some (.map ⟨es⟩ ck)) (hes : Yg kk es) (hu : UKeys es) (k : Int) :
  ∃ es', (Builtin.delete_ #[t, kt] ty #[.map (some b), .int kk k]).run P w = .ok (.tuple #[]) (Vm w b (.map ⟨es'⟩ ck)) ∧ Yg kk es' ∧ UKeys es' ∧ ∀ j, YE es' j = if j = k then none else YE es j := by
 have hck := fun e => WH hK e k w
 have hfk : (Instr.findKey kt (.int kk k) es).run P w = .ok ((Instr.findNow (.int kk) (.int kk k) es 0).getD none) w ∧ True := by
  refine ⟨?_, trivial⟩
  simp only [Instr.findKey, Sem.run_bind, underlying, run_program, Result.andThen_ok, hK.out, Sem.run_pure]
  rcases XW (k := k) es 0 hes with ⟨h1, h2⟩ | ⟨pre, e', post, h0, h1, h2, h3, h4⟩
  ·simp [h2]
  ·simp [h4]
 rcases XW (k := k) es 0 hes with ⟨h1, h2⟩ | ⟨pre, e', post, rfl, h1, h2, h3, h4⟩
 ·rw [h2] at hfk
  refine ⟨es, ?_, hes, hu, fun j => ?_⟩
  ·simp [Builtin.delete_, underlying, hM.out, MapKept.run_getObj_map hb, hck, hfk.1, MapKept.run_setObj_map _ hb, Vm]
  ·split
   ·subst j; exact h1
   ·rfl
 ·rw [h4] at hfk
  obtain ⟨hu1, hu2⟩ := hu.del
  refine ⟨pre ++ post, ?_, fun e he => hes e (by rcases List.mem_append.1 he with he | he <;> simp [he]), hu1, fun j => ?_⟩
  ·have her : (pre ++ e' :: post).eraseIdx pre.length = pre ++ post := by simp [List.eraseIdx_append_of_length_le]
   simp [Builtin.delete_, underlying, hM.out, MapKept.run_getObj_map hb, hck, hfk.1, her, MapKept.run_setObj_map _ hb, Vm]
  ·rw [Wk]
   by_cases hj : j = k
   ·subst hj
    rw [if_pos rfl, h2, mget_none.2 (fun x hx kk' hk' => ?_)]
    ·rfl
    ·obtain ⟨a, ha⟩ := hes x (by simp [hx])
     refine hu2 x hx ?_
     rw [h1, ha]
     rw [ha] at hk'
     simp only [Value.int.injEq] at hk' ⊢
     exact ⟨trivial, hk'.2⟩
   ·rw [if_neg hj, Wk]
    congr 1
    have hkj : (k == j) = false := by simpa using fun e : k = j => hj e.symm
    simp [YE, List.find?_cons, h1, hkj]
theorem tl_delete {m i : Operand} {t kt e b : Nat} {kk : IntKind} {es : List MapEntry} {ck : Nat} {k : Int} {f : Obj → SH} (hm : ev E m = some (.map (some b))) (hi : ev E i = some (.int kk k))
  [hM : WO x.P t kt e] [hK : YZ x.P kt kk] [hU : Upd b L (.map ⟨es⟩ ck) f] (hes : Yg kk es) (hu : UKeys es)
  (kk' : ∀ es', Yg kk es' → UKeys es' → (∀ j, YE es' j = if j = k then none else YE es j) → TL x ops rest Q E ρ (f (.map ⟨es'⟩ ck))) :
  TL x ops (⟨none, .call { callee := .builtin .delete, args := #[m, i], argTypes := #[t, kt] }, ty, pos, af, none⟩ :: rest) Q E ρ L := fun a w ha hw => by
 refine Ys rfl rfl ?_
 obtain ⟨es', hrun, h1, h2, h3⟩ := run_delete_u (ty := ty) hM hK (hw.upd hU (.map ⟨es⟩ ck)).2 hes hu k
 have hs := (hw.upd hU (.map ⟨es'⟩ ck)).1
 have : (execOp a.eval ⟨none, .call { callee := .builtin .delete, args := #[m, i], argTypes := #[t, kt] }, ty, pos, af, none⟩).run x.P w = .ok (.value (.tuple #[])) (Vm w b (.map ⟨es'⟩ ck)) := by
  have hargs : Array.map a.eval #[m, i] = #[.map (some b), .int kk k] := by simp [ha.eval hm, ha.eval hi]
  simp only [execOp, resolve, Sem.run_bind, Sem.run_pure, Result.andThen_ok, invoke, builtin, hargs, hrun]
 rw [this]
 exact kk' es' h1 h2 h3 _ _ (ha.put_none _) hs
end
def IterP (P : Program) (g : FuncId) (fs cs : List Value) {α : Type} (enc : α → List Value) (ρ0 : Hp) (S : SH) (C : List (Nat × Obj)) (xs : List α) : Prop :=
 ∀ (l : Nat) (J : List α → Hp → SH → Prop) (Jx : Hp → SH → Prop), (∀ ρ Lj, J [] ρ Lj → ∃ A B, Lj = A ++ C :: B) →
  (∀ pre y ρ Lj, (pre ++ [y]) <+: xs → ρ0.le ρ → J pre ρ Lj → XU P l (enc y) ρ (S ++ Lj) (YP S (J (pre ++ [y])) Jx)) →
  ∀ ρ Lj, ρ0.le ρ → J [] ρ Lj → Spec P g (fs ++ [.func (.yield l) ⟨[]⟩ ⟨[]⟩] ++ cs) ρ (S ++ Lj) (fun v ρ' L' => ∃ Lj', L' = S ++ Lj' ∧ (J xs ρ' Lj' ∨ Jx ρ' Lj'))
section
variable {x : Cx} {Q : Exit → Act → World → Prop} {E : Env} {ρ ρ0 : Hp} {L : SH} {l : Nat} {r : Loop}
theorem tc_rangeFuncP {fo : Operand} {ps : List Nat} {assign body : Code} {g : Nat} {fs cs : List Value} {α : Type} {enc : α → List Value} {S L0 R0 R : SH} {xs : List α} {C : List (Nat × Obj)} (hro : x.ro = none)
  (hf : ev E fo = some (.func (.func g) ⟨fs⟩ ⟨cs⟩)) [hF : Yf x.P g] (hI : IterP x.P g fs cs enc ρ0 S C xs) (hle : ρ0.le ρ) (hps : ∀ y, (enc y).length = ps.length) (hpN : ps.all (fun p => Nat.blt p x.N) = true)
  (J : List α → Hp → SH → Prop) (Jx : Code → Hp → SH → Prop) (k1 : XB L S R0) (k2 : XB R0 L0 R) (h0 : J [] ρ L0) (hC : ∀ ρ Lu, J [] ρ Lu → ∃ A B, Lu = A ++ C :: B)
  (hround : ∀ l tm r pre y ρ' Lu u R', (pre ++ [y]) <+: xs → ρ0.le ρ' → J pre ρ' Lu → r.state = .ready → Rec tm ⟨ps⟩ assign body r →
   TC ⟨some l, x.P, u, [], x.N⟩ assign (Exit.then (KB x.P l body (RQ x.P u ρ' R' l (YP S (JH l (Rec tm ⟨ps⟩ assign body) (J (pre ++ [y]))) (XH l (Rec tm ⟨ps⟩ assign body) Jx)))) QF)
    (envP ps (enc y) E) ρ' ([(l, .loop r)] :: (S ++ (Lu ++ R'))))
  (hdone : ∀ D0 ρ' Lu, ρ.le ρ' → J xs ρ' Lu → TE { x with D := [{ target := .collected D0, args := #[] }] ++ x.D } .normal Q E ρ' ([(D0, .deferred (some []))] :: (S ++ (Lu ++ R))))
  (hstop : ∀ D0 c ρ' Lu, ρ.le ρ' → Jx c ρ' Lu → TC { x with D := [{ target := .collected D0, args := #[] }] ++ x.D } c Q E ρ' ([(D0, .deferred (some []))] :: (S ++ (Lu ++ R)))) :
  TC x (.rangeFunc fo ⟨ps⟩ assign body) Q E ρ L := fun a w ha hw => by
 obtain ⟨ro, P, u, D, N⟩ := x
 simp only at hro; subst hro
 dsimp only at *
 refine wpIn_rangeFunc fun fn _ => ?_
 have hw0 : Sat u ρ (S ++ (L0 ++ R)) w := hw.perm (by
  refine k1.out.trans ?_
  simp only [List.flatten_append]
  exact List.Perm.append_left _ (by simpa using k2.out))
 have hw1 := hw0.new (.deferred (some []))
 generalize hr0 : ({ state := .ready, pending := none, fn, tmps := a.tmps, params := ⟨ps⟩, assign, body, defers := w.heap.size } : Loop) = r0
 have hw2 := hw1.new (.loop r0)
 have hsz : ({ w with heap := w.heap.push (.deferred (some [])) } : World).heap.size = w.heap.size + 1 := by simp
 rw [hsz] at hw2
 have hrec0 : Rec a.tmps ⟨ps⟩ assign body r0 := by subst hr0; exact ⟨rfl, rfl, rfl, rfl⟩
 have hst0 : r0.state = .ready ∧ r0.pending = none := by subst hr0; exact ⟨rfl, rfl⟩
 have henter := run_enterLoop_outer (P := P) (w := w) fn a.tmps ⟨ps⟩ assign body
 rw [hr0] at henter
 have hres : (resolve a.eval (rangeCall fo (w.heap.size + 1)) 0).run P ((w.alloc (.deferred (some []))).alloc (.loop r0)) =
   .ok { target := .fn (.func g) ⟨cs⟩, args := ⟨fs ++ [.func (.yield (w.heap.size + 1)) ⟨[]⟩ ⟨[]⟩]⟩ } ((w.alloc (.deferred (some []))).alloc (.loop r0)) := by
  simp only [resolve, ha.eval hf, Deferred.ofValue, Sem.run_pure]
  simp [Act.eval]
 refine ⟨w.heap.size + 1, _, _, _, _, g, ⟨fs ++ [.func (.yield (w.heap.size + 1)) ⟨[]⟩ ⟨[]⟩] ++ cs⟩, (w.alloc (.deferred (some []))).alloc (.loop r0), henter, hres, fun _ _ => trivial, ?_, fun h => by simp [Fw, Fence.wide] at h, ?_⟩
 ·simp only [invoke]
  have := run_callFunc hF (⟨fs ++ [.func (.yield (w.heap.size + 1)) ⟨[]⟩ ⟨[]⟩]⟩ ++ ⟨cs⟩) ((w.alloc (.deferred (some []))).alloc (.loop r0))
  simpa using this
 generalize hl : w.heap.size + 1 = l at *
 generalize hD0 : w.heap.size = D0 at *
 have hy : ∀ pre y ρ' Lj, (pre ++ [y]) <+: xs → ρ0.le ρ' → JH l (Rec a.tmps ⟨ps⟩ assign body) (J pre) ρ' Lj → XU P l (enc y) ρ' (S ++ Lj) (YP S (JH l (Rec a.tmps ⟨ps⟩ assign body) (J (pre ++ [y]))) (XH l (Rec a.tmps ⟨ps⟩ assign body) Jx)) := by
  intro pre y ρ' Lj hpre hle' hJ
  obtain ⟨r, Lu, rfl, hrs, hrp, hrr, hJu⟩ := hJ
  intro u' R' w' hw'
  have hlr := hw'.here (l, .loop r) (by simp)
  have hargs : (⟨enc y⟩ : Array Value).size = r.params.size := by rw [hrr.params]; simpa using hps y
  refine ⟨_, _, _, _, run_yield hlr hargs, ?_⟩
  have hround' := hround l a.tmps r pre y ρ' Lu u' R' hpre hle' hJu hrs hrr
  have hsat : Sat u' ρ' ([(l, .loop r)] :: (S ++ (Lu ++ R'))) w' := hw'.perm (by simp)
  have hok : Ok [] N (envP ps (enc y) E) { tmps := (r.params.zip ⟨enc y⟩).foldl (fun tmps (t, a) => tmps.setIfInBounds t a) r.tmps, defers := [] } := by
   have h1 : Ok [] N E { tmps := a.tmps, defers := [] } := ⟨rfl, ha.size, ha.get⟩
   have := Ok.putP ps (enc y) E a.tmps hpN h1
   rw [hrr.params, hrr.tmps]
   have e : ((⟨ps⟩ : Array Nat).zip ⟨enc y⟩) = ⟨ps.zip (enc y)⟩ := by simp
   rw [e]
   simpa using this
  have hwp := hround' _ w' hok hsat
  rw [hrr.assign, hrr.body]
  refine roundIn_of_wpIn (F := Fw none) (n := 0) trivial ?_
  exact hwp
 have hspec := hI l (fun pre => JH l (Rec a.tmps ⟨ps⟩ assign body) (J pre)) (XH l (Rec a.tmps ⟨ps⟩ assign body) Jx) (fun ρ Lj ⟨r, Lu, e1, _, _, _, e5⟩ => by
  obtain ⟨A, B, rfl⟩ := hC _ _ e5
  exact ⟨[(l, .loop r)] :: A, B, by rw [e1]; rfl⟩) hy ρ ([(l, .loop r0)] :: L0) hle ⟨r0, L0, rfl, hst0.1, hst0.2, hrec0, h0⟩
 have hcall := hspec u ([(D0, .deferred (some []))] :: R) ((w.alloc (.deferred (some []))).alloc (.loop r0)) (hw2.perm (by
  simp only [List.flatten_cons, List.flatten_append, List.append_assoc, List.cons_append, List.singleton_append, List.nil_append]
  refine List.Perm.trans (l₂ := S.flatten ++ ((l, .loop r0) :: (D0, .deferred (some [])) :: (L0.flatten ++ R.flatten))) ?_ ?_
  ·refine List.Perm.trans ?_ List.perm_middle.symm
   refine List.Perm.cons _ ?_
   exact List.perm_middle.symm
  ·refine List.Perm.append_left _ (List.Perm.cons _ ?_)
   exact List.perm_middle.symm))
 refine calls_ro (CallsIn.mono hcall ?_)
 rintro e w3 ⟨v, ρ', L', rfl, hle', hsat, Lj', rfl, hor⟩
 have perm4 : ∀ (c : List (Nat × Obj)) (Lu : SH), (S ++ (c :: Lu) ++ ([(D0, .deferred (some []))] :: R)).flatten.Perm (c :: ([(D0, .deferred (some []))] :: (S ++ (Lu ++ R)))).flatten := fun c Lu => by
  simp only [List.flatten_cons, List.flatten_append, List.append_assoc, List.cons_append, List.singleton_append, List.nil_append]
  refine List.Perm.trans ?_ (List.Perm.append_left c (List.perm_middle (l₁ := S.flatten ++ Lu.flatten) (a := (D0, .deferred (some []))) (l₂ := R.flatten) |>.trans (by simp)))
  rw [← List.append_assoc, ← List.append_assoc c]
  refine List.Perm.trans (List.Perm.append_right _ List.perm_append_comm) ?_
  simp only [List.append_assoc]
  exact List.Perm.refl _
 rcases hor with ⟨r, Lu, rfl, hrs, hrp, hrr, hJu⟩ | ⟨r, Lu, c, rfl, hrs, hrp, hrr, hJu⟩
 ·have hs1 := hsat.perm (perm4 [(l, .loop r)] Lu)
  have hlr := hs1.here (l, .loop r) (by simp)
  refine ⟨r.pending, _, run_endLoop hlr (by rw [hrs]; simp), ?_⟩
  rw [hrp]
  have hs2 := (hs1.put (.loop { r with state := .exhausted, pending := none })).sub (L' := [(D0, .deferred (some []))] :: (S ++ (Lu ++ R))) (by simp)
  exact hdone D0 ρ' Lu hle' hJu _ _ ⟨by simp [ha.defers], ha.size, ha.get⟩ hs2
 ·have hs1 := hsat.perm (perm4 [(l, .loop r)] Lu)
  have hlr := hs1.here (l, .loop r) (by simp)
  refine ⟨r.pending, _, run_endLoop hlr (by rw [hrs]; simp), ?_⟩
  rw [hrp]
  have hs2 := (hs1.put (.loop { r with state := .exhausted, pending := some c })).sub (L' := [(D0, .deferred (some []))] :: (S ++ (Lu ++ R))) (by simp)
  exact hstop D0 c ρ' Lu hle' hJu _ _ ⟨by simp [ha.defers], ha.size, ha.get⟩ hs2
end
end Go.Proofs.E
