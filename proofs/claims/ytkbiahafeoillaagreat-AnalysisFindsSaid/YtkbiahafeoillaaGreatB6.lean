/- Laws of analysis. Part 6 of 37. -/
import Derived.Test.YtkbiahafeoillaaGreatB5
import Derived.Laws.Slices
import Derived.ChangeKeysEq
import Derived.Lib.Overlaps
import Derived.Laws.Externs
namespace Go.Proofs.E
open Go
set_option linter.unusedVariables false
set_option linter.unusedSimpArgs false
theorem lk_append (A B : Env) (t : Nat) : lk (A ++ B) t = (lk A t).or (lk B t) := by
 induction A with
 | nil => simp [lk]
 | cons p r ih =>
  obtain ⟨k, v⟩ := p
  simp only [List.cons_append, lk]
  split
  ·simp
  ·exact ih
theorem EnvLe.app {A B E : Env} (h : EnvLe A E) (k : EnvLe B E) : EnvLe (A ++ B) E := fun t v hv => by
 rw [lk_append] at hv
 cases ha : lk A t with
 | some x => rw [ha] at hv; simp only [Option.some_or, Option.some.injEq] at hv; rw [← hv]; exact h t x ha
 | none => rw [ha] at hv; simp only [Option.none_or] at hv; exact k t v hv
section
variable {x : Cx} {Q : Exit → Act → World → Prop} {E : Env} {ρ : Hp} {L : SH}
def KRG (x : Cx) {Y : Type} (C : Env) (M : Y → Env) (ρf : Y → Hp) (Lf : Y → SH) (R : SH) (I : Y → Prop) (μ : Y → Nat) (y : Y) : Act → World → Prop := KR x (fun y => ⟨M y ++ C, ρf y, Lf y ++ R⟩) I μ y
theorem ZC {Y : Type} {c : Code} {R : SH} (C : Env) (M : Y → Env) (ρf : Y → Hp) (Lf : Y → SH) (I : Y → Prop) (μ : Y → Nat) (y0 : Y) (h0 : I y0) (hM : EnvLe (M y0) E) (hC : EnvLe C E) (hρ : ρf y0 = ρ) (k : Xo L (Lf y0) R)
  (round : ∀ y, I y → TC x c (Exit.then (KRG x C M ρf Lf R I μ y) Q) (M y ++ C) (ρf y) (Lf y ++ R)) : TC x (.loop c) Q E ρ L :=
 tc_loop (fun y => ⟨M y ++ C, ρf y, Lf y ++ R⟩) I μ y0 h0 (hM.app hC) hρ k.out round
theorem Zp {Y : Type} {C : Env} {M : Y → Env} {ρf : Y → Hp} {Lf : Y → SH} {R G : SH} {I : Y → Prop} {μ : Y → Nat} {y : Y} (y' : Y) (hI : I y') (hM : EnvLe (M y') E) (hC : EnvLe C E) (hρ : ρf y' = ρ) (k : Xo L (Lf y') G) (e : Ends G R) (hμ : μ y' < μ y) :
  TE x .normal (Exit.then (KRG x C M ρf Lf R I μ y) Q) E ρ L :=
 te_round_e (S := fun y => ⟨M y ++ C, ρf y, Lf y ++ R⟩) (Lm := Lf y') (R := R) y' rfl hI (hM.app hC) hρ k e hμ
def KCG (x : Cx) {Y : Type} (C : Env) (M : Y → Env) (ρf : Y → Hp) (Lf : Y → SH) (R : SH) (I : Y → Prop) : Act → World → Prop := fun a w => ∃ y', Ok x.D x.N (M y' ++ C) a ∧ Sat x.u (ρf y') (Lf y' ++ R) w ∧ I y'
theorem tc_cut_k {y z : Code} {Y : Type} (R : SH) (C : Env) (M : Y → Env) (ρf : Y → Hp) (Lf : Y → SH) (I : Y → Prop) (hC : EnvLe C E)
  (h : TC x y (Exit.then (KCG x C M ρf Lf R I) Q) E ρ L)
  (k : ∀ y', I y' → TC x z Q (M y' ++ C) (ρf y') (Lf y' ++ R)) : TC x y (Exit.then (KC x z Q) Q) E ρ L := fun a w ha hw =>
 wpIn_mono (h a w ha hw) fun e a w q => by
  cases e <;> first | exact q | exact (let ⟨y', h1, h2, h3⟩ := q; k y' h3 a w h1 h2)
theorem te_cut_g {Y : Type} {C : Env} {M : Y → Env} {ρf : Y → Hp} {Lf : Y → SH} {R G : SH} {I : Y → Prop} (y' : Y) (hI : I y') (hM : EnvLe (M y') E) (hC : EnvLe C E) (hρ : ρf y' = ρ) (k : Xo L (Lf y') G) (e : Ends G R) :
  TE x .normal (Exit.then (KCG x C M ρf Lf R I) Q) E ρ L :=
 te_cut_e (S := fun y => ⟨M y ++ C, ρf y, Lf y ++ R⟩) (Lm := Lf y') (R := R) y' rfl hI (hM.app hC) hρ k e
end
end Go.Proofs.E
namespace Go.Proofs.E
open Go Go.Lib
set_option linter.unusedVariables false
set_option linter.unusedSimpArgs false
set_option linter.unusedSectionVars false
structure OwnO (v : Value) (n : Nat) (xs : List Value) (T : TypeId) (c : List (Nat × Obj)) : Prop where
 out : (v = .slice none 0 0 ∧ n = 0 ∧ xs = [] ∧ c = []) ∨ ∃ b off cap pre sp, v = .slice (some ⟨b, off, none⟩) n cap ∧ xs.length = n ∧ xs.length + sp.length = cap ∧ n ≤ cap ∧ (cap = 0 ∨ off = pre.length) ∧ c = [(b, .cells ⟨pre ++ xs ++ sp⟩ T (0, 0))]
theorem OwnO.nil {T : TypeId} : OwnO (.slice none 0 0) 0 [] T [] := ⟨.inl ⟨rfl, rfl, rfl, rfl⟩⟩
theorem OwnO.slice {v : Value} {n : Nat} {xs : List Value} {T : TypeId} {c : List (Nat × Obj)} (h : OwnO v n xs T c) : ∃ a cap, v = .slice a n cap ∧ n ≤ cap := by
 rcases h.out with ⟨rfl, rfl, rfl, rfl⟩ | ⟨b, off, cap, pre, sp, rfl, h1, h2, h3, h4⟩
 ·exact ⟨none, 0, rfl, Nat.le_refl _⟩
 ·exact ⟨_, cap, rfl, h3⟩
theorem OwnO.tail {v : Value} {n : Nat} {x : Value} {xs : List Value} {T : TypeId} {c : List (Nat × Obj)} (h : OwnO v n (x :: xs) T c) : ∃ a cap, v = .slice a n cap ∧ 1 ≤ n ∧ n ≤ cap ∧ OwnO (.slice (if cap = 1 then a else a.map (·.add (1 * 1))) (n - 1) (cap - 1)) (n - 1) xs T c := by
 rcases h.out with ⟨rfl, rfl, h1, rfl⟩ | ⟨b, off, cap, pre, sp, rfl, h1, h2, h3, h4, rfl⟩
 ·cases h1
 ·simp only [List.length_cons] at h1 h2
  refine ⟨_, cap, rfl, by omega, h3, ⟨.inr ⟨b, if cap = 1 then off else off + 1, cap - 1, pre ++ [x], sp, ?_, by omega, by omega, by omega, ?_, by simp⟩⟩⟩
  ·by_cases hc : cap = 1
   ·simp [hc]
   ·simp [hc, Yo]
  ·by_cases hc : cap = 1
   ·left; omega
   ·right; simp only [if_neg hc]; rcases h4 with h4 | h4
    ·omega
    ·simp [h4]
theorem OwnO.sIn {α : Type} {g : α → Value} {ρ : Hp} {v : Value} {n : Nat} {l : List α} {T : TypeId} {c : List (Nat × Obj)} (h : OwnO v n (l.map g) T c) (hf : ∀ p ∈ c, ρ p.1 = some p.2) : ∃ a cap, v = .slice a n cap ∧ n ≤ cap ∧ SIn ρ g a n l := by
 rcases h.out with ⟨rfl, rfl, h2, rfl⟩ | ⟨b, off, cap, pre, sp, rfl, h1, h2, h3, h4, rfl⟩
 ·have : l = [] := by simpa using h2
  subst this
  exact ⟨none, 0, rfl, Nat.le_refl _, SIn.nil⟩
 ·refine ⟨_, cap, rfl, h3, by simpa using h1, ?_⟩
  by_cases h0 : n = 0
  ·exact .inl h0
  ·right
   rcases h4 with h4 | rfl
   ·omega
   ·refine ⟨b, _, _, T, (0, 0), rfl, hf _ (List.mem_singleton.2 rfl), ?_⟩
    rw [List.append_assoc, List.drop_left, List.take_left' h1]
section
variable {x : Cx} {Q : Exit → Act → World → Prop} {E : Env} {ρ : Hp} {L L1 : SH} {ops : Array Oper} {rest tail : List Oper} {ty : TypeId} {pos : String} {af : Array Edge}
end
section
variable {x : Cx} {E : Env} {ρ : Hp} {L : SH} {ty : TypeId}
theorem y_index_a {o i : Operand} {t len e sz n : Nat} {k : IntKind} {l m : List Value} (ho : ev E o = some (.agg ⟨l⟩)) (hi : ev E i = some (.int k (n : Int))) [hS : TyArr x.P t len e] [hT : TyA x.P e sz] (h1 : n < len) (hm : (l.drop (n * sz)).take sz = m) :
  Yl x (.index t o i) ty E ρ L (.agg ⟨m⟩) := fun a w _ _ _ _ ha hw => by
 obtain ⟨ds, inf, g1, g2, g3, g4⟩ := hT.out
 have hag : (isAgg e).run x.P w = .ok true w := by
  simp only [isAgg, underlying, Sem.run_bind, run_program, Result.andThen_ok, g1, Sem.run_pure]
  cases ds <;> simp_all
 have hsz : (sizeOf e).run x.P w = .ok sz w := by simp [sizeOf, typeInfo, g3, g4]
 simp [execOp, ha.eval ho, ha.eval hi, Instr.index, asIntOf, underlying, hS.out, h1, part, hag, hsz, hm]
end
theorem Hp.at' {ρ ρ' : Hp} (h : ρ.le ρ') {b : Nat} {o : Obj} (hb : ρ b = some o) : ρ' b = some o := h _ _ hb
end Go.Proofs.E
namespace Go.Proofs.E
open Go Go.RowKit
set_option linter.unusedVariables false
set_option linter.unusedSimpArgs false
set_option linter.unusedSectionVars false
set_option maxRecDepth 8000
def reachB (l : List Oper) : Nat → Nat → Nat → Bool
 | 0, _, _ => false
 | f + 1, i, k => ((l[i]?).map fun o => o.after.any fun e => Region.binds .any e && (e.on == k || reachB l f e.on k)).getD false
def guardB (c : Nat) (o : Oper) : Bool := match o.guard with | none => true | some (j, _) => decide (j < c)
def cutB (l : List Oper) (c : Nat) : Bool :=
 decide (c ≤ l.length) && (List.range l.length).all fun i =>
  if i < c then ((l[i]?).map fun o => o.after.all (fun e => !Region.binds .any e || decide (e.on < i)) && guardB c o).getD false
  else (List.range c).all fun k => reachB l 12 i k
def ClosedL (l : List Oper) (m : List Bool) : Prop := ∀ (j : Nat) (o : Oper), l[j]? = some o → m[j]? = some true → ∀ e ∈ o.after, Region.binds .any e = true → m[e.on]? = some true
theorem reach_ok {l : List Oper} {m : List Bool} (hc : ClosedL l m) : ∀ (f i k : Nat) (o : Oper), l[i]? = some o → (∀ e ∈ o.after, Region.binds .any e = true → m[e.on]? = some true) → reachB l f i k = true → m[k]? = some true
 | 0, _, _, _, _, _, h => by simp [reachB] at h
 | f + 1, i, k, o, ho, he, h => by
  simp only [reachB, ho, Option.map_some, Option.getD_some, Array.any_eq_true] at h
  obtain ⟨x, hx, h⟩ := h
  simp only [Bool.and_eq_true, Bool.or_eq_true, beq_iff_eq] at h
  have h1 := he _ (Array.getElem_mem hx) h.1
  rcases h.2 with h2 | h2
  ·rw [← h2]; exact h1
  ·cases ho2 : l[(o.after[x]).on]? with
   | none =>
    cases f with
    | zero => simp [reachB] at h2
    | succ f => simp [reachB, ho2] at h2
   | some o2 => exact reach_ok hc f _ k o2 ho2 (hc _ o2 ho2 h1) h2
theorem wpOpIn_cut {ro : Option Nat} {P : Program} {l : List Oper} {c i : Nat} {Q Q1 : Exit → Act → World → Prop} {K K' : Act → World → Prop} {a : Act} {w : World} (hi : i < c) (hg : ∀ o, l[i]? = some o → guardB c o = true) (hk : ∀ a w, K a w → K' a w)
  (h : wpOpIn (Fw ro) 0 P (l.take c).toArray (QN Q1) i K a w) : wpOpIn (Fw ro) 0 P l.toArray (QN Q) i K' a w := by
 unfold wpOpIn at h ⊢
 simp only [List.getElem?_toArray] at h ⊢
 rw [List.getElem?_take_of_lt hi] at h
 cases ho : l[i]? with
 | none => rw [ho] at h; exact hk _ _ h
 | some o =>
  rw [ho] at h
  simp only at h ⊢
  have hgo := hg o ho
  have hy : Region.wanted o (yielded (l.take c).toArray a.tmps) = Region.wanted o (yielded l.toArray a.tmps) := by
   unfold Region.wanted
   unfold guardB at hgo
   cases hgd : o.guard with
   | none => rfl
   | some jb =>
    obtain ⟨j, b⟩ := jb
    rw [hgd] at hgo
    simp only [decide_eq_true_eq] at hgo
    simp only [yielded, List.getElem?_toArray, List.getElem?_take_of_lt hgo]
  rw [hy] at h
  by_cases hw : Region.wanted o (yielded l.toArray a.tmps) = true
  ·simp only [hw, if_true] at h ⊢
   unfold Oper.wpIn at h ⊢
   refine ⟨h.1, ?_⟩
   have h2 := h.2
   generalize (o.semAt (Fw ro).round a.eval).run P w = r at *
   cases r with
   | ok n w' =>
    cases n <;> simp only [Oper.uponIn] at h2 ⊢ <;>
    first
     | exact hk _ _ h2
     | exact ⟨h2.1, CallsIn.mono h2.2 (fun e w'' he => by cases e <;> first | exact hk _ _ he | exact he.elim | exact (let ⟨_, _, q⟩ := he; q.elim))⟩
     | exact ⟨h2.1, RowsIn.mono h2.2 (fun _ _ he => hk _ _ he)⟩
     | exact ⟨h2.1, RoundIn.mono h2.2 (fun e w'' he => by cases e <;> first | exact hk _ _ he | exact he.elim | exact (let ⟨_, _, q⟩ := he; q.elim))⟩
   | halt x w' => cases x <;> simp only [Oper.uponIn] at h2 ⊢ <;> first | exact h2 | exact h2.elim
  ·simp only [hw] at h ⊢
   exact ⟨h.1, hk _ _ h.2⟩
theorem any_cut {ro : Option Nat} {P : Program} {l : List Oper} {c : Nat} {Q : Exit → Act → World → Prop} (hcut : cutB l c = true) :
  ∀ (fuel : Nat) (m : List Bool) (a : Act) (w : World), m.length = c → ClosedL l m → List.count false m = fuel →
   wpAnyIn (Fw ro) 0 P .any (l.take c).toArray (QN fun e a w => wpAnyIn (Fw ro) 0 P .any l.toArray (QN Q) (l.length - c) ⟨List.replicate c true ++ List.replicate (l.length - c) false⟩ a w) fuel ⟨m⟩ a w →
   wpAnyIn (Fw ro) 0 P .any l.toArray (QN Q) (fuel + (l.length - c)) ⟨m ++ List.replicate (l.length - c) false⟩ a w := by
 simp only [cutB, Bool.and_eq_true, decide_eq_true_eq, List.all_eq_true, List.mem_range] at hcut
 obtain ⟨hcl, hall⟩ := hcut
 intro fuel
 induction fuel with
 | zero =>
  intro m a w hm _ h0 H
  have hmt : m = List.replicate c true := by
   rw [List.eq_replicate_iff]
   refine ⟨hm, fun b hb => ?_⟩
   cases b with
   | true => rfl
   | false => exact absurd hb (List.count_eq_zero.1 h0)
  rw [Nat.zero_add, hmt]
  exact H.2
 | succ fuel ih =>
  intro m a w hm hcd h0 H
  have hA : fuel + 1 + (l.length - c) = (fuel + (l.length - c)) + 1 := by omega
  rw [hA]
  have hget : ∀ j, j < c → (m ++ List.replicate (l.length - c) false)[j]? = m[j]? := fun j hj => List.getElem?_append_left (by omega)
  have hge : ∀ j, c ≤ j → (m ++ List.replicate (l.length - c) false)[j]? ≠ some true := fun j hj h => by
   rw [List.getElem?_append_right (by omega)] at h
   rw [List.getElem?_replicate] at h
   split at h <;> simp at h
  have hlt : ∀ j, (m ++ List.replicate (l.length - c) false)[j]? = some true → m[j]? = some true := fun j h => by
   by_cases hj : j < c
   ·rw [hget j hj] at h; exact h
   ·exact absurd h (hge j (by omega))
  have hrd : ∀ i, i ∈ Region.ready .any l.toArray ⟨m ++ List.replicate (l.length - c) false⟩ → i < c ∧ m[i]? = some false ∧ i ∈ Region.ready .any (l.take c).toArray ⟨m⟩ ∧ ∃ o, l[i]? = some o ∧ ∀ e ∈ o.after, Region.binds .any e = true → m[e.on]? = some true := fun i hi => by
   obtain ⟨h1, o, ho, he⟩ := mem_ready.1 hi
   simp only [List.getElem?_toArray] at ho
   have he' : ∀ e ∈ o.after, Region.binds .any e = true → m[e.on]? = some true := fun e h2 h3 => by
    have := he e h2 h3
    apply hlt
    simp only [Array.getD_eq_getD_getElem?, List.getElem?_toArray] at this
    cases hq : (m ++ List.replicate (l.length - c) false)[e.on]? with
    | none => rw [hq] at this; simp at this
    | some b => rw [hq] at this; simp at this; rw [this]
   have hil : i < l.length := by
    rcases Nat.lt_or_ge i l.length with h | h
    ·exact h
    ·rw [List.getElem?_eq_none h] at ho; cases ho
   have hic : i < c := by
    rcases Nat.lt_or_ge i c with h | h
    ·exact h
    ·exfalso
     have hr := hall i hil
     rw [if_neg (by omega)] at hr
     simp only [List.all_eq_true, List.mem_range] at hr
     have hno : false ∉ m := fun hf => by
      obtain ⟨k, hk, hkf⟩ := List.getElem_of_mem hf
      have := reach_ok hcd 12 i k o ho he' (hr k (by omega))
      rw [List.getElem?_eq_getElem hk, hkf] at this
      cases this
     have := List.count_eq_zero.2 hno
     omega
   have hmi : m[i]? = some false := by
    simp only [Array.getD_eq_getD_getElem?, List.getElem?_toArray, hget i hic] at h1
    rw [List.getElem?_eq_getElem (show i < m.length by omega)] at h1 ⊢
    simpa using h1
   refine ⟨hic, hmi, mem_ready.2 ⟨by simp [Array.getD_eq_getD_getElem?, hmi], o, by simp [List.getElem?_take_of_lt hic, ho], fun e h2 h3 => by simp [Array.getD_eq_getD_getElem?, he' e h2 h3]⟩, o, ho, he'⟩
  refine ⟨fun hnil => ?_, fun i hi => ?_⟩
  ·exfalso
   have hmem : false ∈ m := by
    rcases Classical.em (false ∈ m) with h | h
    ·exact h
    ·have := List.count_eq_zero.2 h; omega
   have hex : ∃ k : Nat, m[k]? = some false ∧ ∀ j : Nat, j < k → m[j]? = some true := by
    have key : ∀ (m : List Bool), false ∈ m → ∃ k : Nat, m[k]? = some false ∧ ∀ j : Nat, j < k → m[j]? = some true := by
     intro m
     induction m with
     | nil => intro h; cases h
     | cons b r ih2 =>
      intro h
      cases b with
      | false => exact ⟨0, rfl, fun j hj => by omega⟩
      | true =>
       obtain ⟨k, h1, h2⟩ := ih2 (by simpa using h)
       refine ⟨k + 1, by simpa using h1, fun j hj => ?_⟩
       cases j with
       | zero => rfl
       | succ j => simpa using h2 j (by omega)
    exact key m hmem
   obtain ⟨k, hk, hlow⟩ := hex
   have hkc : k < c := by
    rcases Nat.lt_or_ge k m.length with h | h
    ·omega
    ·rw [List.getElem?_eq_none h] at hk; cases hk
   have hr := hall k (by omega)
   rw [if_pos hkc] at hr
   have hko : l[k]? = some l[k] := List.getElem?_eq_getElem (by omega)
   rw [hko] at hr
   simp only [Option.map_some, Option.getD_some, Bool.and_eq_true, Array.all_eq_true_iff_forall_mem, Bool.or_eq_true, Bool.not_eq_true', decide_eq_true_eq] at hr
   have : k ∈ Region.ready .any l.toArray ⟨m ++ List.replicate (l.length - c) false⟩ := by
    refine mem_ready.2 ⟨by simp [Array.getD_eq_getD_getElem?, hget k hkc, hk], l[k], by simp [hko], fun e h2 h3 => ?_⟩
    have hlt2 : e.on < k := by
     rcases hr.1 e h2 with h | h
     ·rw [h] at h3; cases h3
     ·exact h
    simp [Array.getD_eq_getD_getElem?, hget e.on (by omega), hlow e.on hlt2]
   rw [hnil] at this
   cases this
  ·obtain ⟨hic, hmi, hi1, o, ho, he⟩ := hrd i hi
   have hr := hall i (by omega)
   rw [if_pos hic, ho] at hr
   simp only [Option.map_some, Option.getD_some, Bool.and_eq_true] at hr
   refine wpOpIn_cut hic (fun o' ho' => by rw [ho] at ho'; cases ho'; exact hr.2) (fun a' w' h' => ?_) (H.2 i hi1)
   have hs1 : (⟨m⟩ : Array Bool).setIfInBounds i true = ⟨m.set i true⟩ := by simp
   have hs2 : (⟨m ++ List.replicate (l.length - c) false⟩ : Array Bool).setIfInBounds i true = ⟨m.set i true ++ List.replicate (l.length - c) false⟩ := by
    simp [List.set_append_left _ _ (show i < m.length by omega)]
   rw [hs1] at h'
   rw [hs2]
   refine ih (m.set i true) a' w' (by simpa using hm) (fun j oj hoj hj e h2 h3 => ?_) ?_ h'
   ·have hself : ∀ q, m[q]? = some true → (m.set i true)[q]? = some true := fun q hq => by
     rw [List.getElem?_set]
     split
     ·rename_i h; subst h; rw [hmi] at hq; cases hq
     ·exact hq
    by_cases hji : j = i
    ·subst hji
     rw [ho] at hoj; cases hoj
     exact hself _ (he e h2 h3)
    ·rw [List.getElem?_set_ne (fun h => hji h.symm)] at hj
     exact hself _ (hcd j oj hoj hj e h2 h3)
   ·have hlt3 : i < m.length := by omega
    have hmi2 : m[i] = false := by rw [List.getElem?_eq_getElem hlt3] at hmi; simpa using hmi
    rw [List.count_set (h := hlt3)]
    simp [hmi2]
    omega
section
variable {x : Cx} {Q : Exit → Act → World → Prop} {E : Env} {ρ : Hp} {L : SH} {l : List Oper}
def QPh (x : Cx) (l : List Oper) (c : Nat) (Q : Exit → Act → World → Prop) : Exit → Act → World → Prop :=
 fun _ a w => wpAnyIn (Fw x.ro) 0 x.P .any l.toArray (QN Q) (l.length - c) ⟨List.replicate c true ++ List.replicate (l.length - c) false⟩ a w
theorem tc_phase {id : Nat} (c : Nat) (S : World → Prop) [hm : Mixed x.P] (hcut : cutB l c = true) (hS : ∀ w, Sat x.u ρ L w → S w) (h : TR x (l.take c) S c (List.replicate c false) (QPh x l c Q) E ρ L) : TC x (.region id l.toArray true) Q E ρ L := fun a w ha hw => by
 refine wpIn_mono (Q := QN Q) ?_ (fun e a w q => by cases e <;> first | exact q | exact q.elim)
 refine wpIn_region_any hm.out ?_
 have h1 := h a _ ha hw.drew (hS _ hw.drew)
 have h2 := wpAnyIn_of_G _ _ _ _ h1
 have hcl : c ≤ l.length := by
  simp only [cutB, Bool.and_eq_true, decide_eq_true_eq] at hcut
  exact hcut.1
 have h3 := any_cut (Q := Q) hcut c (List.replicate c false) a _ (by simp) (fun j o _ hj => by
  rw [List.getElem?_replicate] at hj
  split at hj <;> simp at hj) (by simp) h2
 have e1 : c + (l.length - c) = l.length := by omega
 rw [e1, List.replicate_append_replicate, e1] at h3
 simpa using h3
theorem te_phase {c fuel : Nat} {m : List Bool} (S : World → Prop) (hf : l.length - c = fuel) (hm : List.replicate c true ++ List.replicate fuel false = m) (hS : ∀ w, Sat x.u ρ L w → S w) (h : TR x l S fuel m Q E ρ L) : TE x .normal (QPh x l c Q) E ρ L := fun a w ha hw => by
 subst hf
 subst hm
 exact wpAnyIn_of_G _ _ _ _ (h a w ha hw (hS w hw))
end
end Go.Proofs.E
namespace Go.Proofs.E
open Go Go.RowKit Go.WideShapes
set_option linter.unusedVariables false
set_option linter.unusedSimpArgs false
section
variable {H : Type} {enc : TypeId × Value → H} {P : Program} {w : World}
def OpnS (enc : TypeId × Value → H) (P : Program) (w : World) (t : TypeId) {α : Type} (R : List Value → α → Prop) : Prop :=
 ∀ fuel cs x, DataW.trod enc P w 0 (fun _ => true) true fuel t cs = some x → (∀ n ∈ x.1.weights P t, n ≤ reachBytes) → ∃ a, R cs a
theorem Opn.sized {t : TypeId} {α : Type} {R : List Value → α → Prop} (h : Opn enc P w t R) : OpnS enc P w t R := fun f cs x hx _ => h f cs x hx
theorem OpnS.mono {t : TypeId} {α β : Type} {R : List Value → α → Prop} {R' : List Value → β → Prop} (h : OpnS enc P w t R) (k : ∀ cs a, R cs a → ∃ b, R' cs b) : OpnS enc P w t R' := fun f cs x hx hw => by
 obtain ⟨a, ha⟩ := h f cs x hx hw
 exact k cs a ha
theorem weights_all {e : TypeId} {n : Nat} : ∀ {l : List (DataW H)} {d : DataW H}, d ∈ l → n ∈ d.weights P e → n ∈ DataW.weightsAll P e l
 | x :: r, d, hd, hn => by
  simp only [DataW.weightsAll, List.mem_append]
  rcases List.mem_cons.1 hd with rfl | hd
  ·exact .inl hn
  ·exact .inr (weights_all hd hn)
theorem Xc {t e : TypeId} {sz by' : Nat} {α : Type} {R : List Value → α → Prop} (ht : P.underlying t = some (.slice e)) (hsz : P.cellsOf e = sz) (h0 : 0 < sz) (hby : P.bytesOf e = by') (hR : OpnS enc P w e R) :
  OpnS enc P w t (fun cs s => RS (hpOf w) sz R cs s ∧ s.2.1 * by' ≤ reachBytes) := fun fuel cs x h hw => by
 subst hsz; subst hby
 rcases DataW.trod_slice ht h with ⟨rfl, _⟩ | ⟨a, len, cap, elems, rest, n, _, rfl, hx, _, hl, hm, hlen, hel, _, _⟩
 ·exact ⟨(none, 0, 0, []), ⟨rfl, Nat.le_refl _, by simp, rfl, fun i h => by simp at h⟩, by simp⟩
 have hwts : x.1.weights P t = (elems.length + rest.length) * P.bytesOf e :: (DataW.weightsAll P e (elems.map (·.1)) ++ DataW.weightsAll P e (rest.map (·.1))) := by
  rw [hx]
  simp only [DataW.weights, ht, List.length_map]
 rw [hwts] at hw
 have hw1 := hw _ (List.mem_cons_self ..)
 have hw2 : ∀ y ∈ elems, ∀ n ∈ y.1.weights P e, n ≤ reachBytes := fun y hy n hn =>
  hw n (List.mem_cons_of_mem _ (List.mem_append_left _ (weights_all (List.mem_map.2 ⟨y, hy, rfl⟩) hn)))
 have each : ∀ i, i < len → ∃ y : α, ∃ b off C T fr, a = ⟨b, off, none⟩ ∧ w.heap[b]? = some (.cells ⟨C⟩ T fr) ∧ off + i * P.cellsOf e + P.cellsOf e ≤ C.length ∧ R ((C.drop (off + i * P.cellsOf e)).take (P.cellsOf e)) y := by
  have spot : 0 < len → a.spot = none := fun hp => by
   have hi := hel 0 hp
   rw [List.getElem?_eq_getElem (by omega), Option.bind_eq_some_iff] at hi
   obtain ⟨cs', hcs, _⟩ := hi
   obtain ⟨b, off, C, T, fr, ha, _⟩ := cells_block hcs h0
   have e0 : a.add (0 * P.cellsOf e) = a := by simp [Addr.add]
   rw [e0] at ha
   rw [ha]
  intro i hi
  have hs := spot (by omega)
  obtain ⟨b, off, sp⟩ := a
  simp only at hs
  subst hs
  have hi' := hel i hi
  rw [List.getElem?_eq_getElem (by omega), Option.bind_eq_some_iff] at hi'
  obtain ⟨cs', hcs, htr⟩ := hi'
  rw [Yo] at hcs
  obtain ⟨b', off', C, T, fr, ha, hb, hfit, rfl⟩ := cells_block hcs h0
  cases ha
  obtain ⟨y, hy⟩ := hR _ _ _ htr (hw2 _ (List.getElem_mem (show i < elems.length by omega)))
  exact ⟨y, _, _, C, T, fr, rfl, hb, hfit, hy⟩
 obtain ⟨xs, h1, h2⟩ := exists_list len each
 refine ⟨(some a, len, cap, xs), ⟨rfl, hl, by simpa [maxLen] using hm, h1, fun i hi => ?_⟩, ?_⟩
 ·obtain ⟨b, off, C, T, fr, e1, e2, e3, e4⟩ := h2 i hi
  exact ⟨b, off, C, T, fr, by rw [e1], e2, e3, e4⟩
 ·refine Nat.le_trans (Nat.mul_le_mul_right _ ?_) hw1
  dsimp only; omega
theorem YD {t : TypeId} {fs : Array Field} {fuel : Nat} {cs : List Value} {x : DataW H × List MemPlace} (ht : P.underlying t = some (.struct fs)) (h : DataW.trod enc P w 0 (fun _ => true) true fuel t cs = some x) (hw : ∀ n ∈ x.1.weights P t, n ≤ reachBytes) :
  cs.length = P.cellsOf t ∧ ∀ (i : Nat) (f : Field), fs[i]? = some f → ∀ {α : Type} {R : List Value → α → Prop}, OpnS enc P w f.type R → ∃ a, R ((cs.drop f.offset).take (P.cellsOf f.type)) a := by
 obtain ⟨xs, n, _, hx, hl, hlen, hf⟩ := DataW.trod_struct ht h
 refine ⟨hl, fun i f hi α R hR => ?_⟩
 have := hf i f hi
 have hlt : i < fs.size := (Array.getElem?_eq_some_iff.1 hi).1
 rw [List.getElem?_eq_getElem (by omega)] at this
 refine hR _ _ _ this (fun m hm => hw m ?_)
 rw [hx]
 simp only [DataW.weights, ht]
 refine DataW.weights_mem_each (j := i) (t := f.type) (d := (xs[i]'(by omega)).1) ?_ ?_ m hm
 ·rw [List.getElem?_map]
  have : fs.toList[i]? = some f := by simpa using hi
  rw [this]; rfl
 ·rw [List.getElem?_map, List.getElem?_eq_getElem (by omega)]; rfl
theorem ZD {t : TypeId} {fs : Array Field} {fuel : Nat} {cs : List Value} {x : DataW H × List MemPlace} (h : DataW.trod enc P w 0 (fun _ => true) true fuel t cs = some x) (hw : ∀ n ∈ x.1.weights P t, n ≤ reachBytes) (ht : P.underlying t = some (.struct fs)) (i o n : Nat) {f : Field} {T : TypeId}
  (hi : fs[i]? = some f) (ho : f.offset = o) (hT : f.type = T) (hn : P.cellsOf T = n) {α : Type} {R : List Value → α → Prop} (hR : OpnS enc P w T R) : ∃ a, R ((cs.drop o).take n) a := by
 subst ho; subst hn; subst hT
 exact (YD ht h hw).2 i f hi hR
theorem wts_of {ts : List TypeId} {ds : List (DataW H)} {t : TypeId} {j : Nat} {d : DataW H} (hsz : (DataW.weightsEach P ts ds).all (· ≤ reachBytes) = true) (ht : ts[j]? = some t) (hd : ds[j]? = some d) : ∀ n ∈ d.weights P t, n ≤ reachBytes := fun n hn => by
 have := List.all_eq_true.1 hsz n (DataW.weights_mem_each ht hd n hn)
 simpa using this
end
end Go.Proofs.E
namespace Go.Proofs.E
open Go
set_option linter.unusedVariables false
attribute [local irreducible] Yl TL TC TE Spec YY R1 Hp.le EnvLe TS TR YS Zq
section
variable {x : Cx} {E : Env} {ρ ρ0 : Hp} {L : SH} {v : Value}
theorem qF {e : Exit} {fn : Func} {u : World} {R : SH} {Post : Value → Hp → SH → Prop} {L' G : SH} (hp : Post v ρ L')
  (hr : ∀ a w, Ok x.D x.N E a → Sat x.u ρ L w → (results fn a.tmps).run x.P w = .ok v w := by
   first
   | exact res0 rfl
   | exact res1 rfl (Yu rfl)
   | exact res1 rfl (Yi rfl (by first | assumption | rfl))
   | exact res1 rfl (ZP rfl rfl)
   | exact res2 rfl (Yu rfl) (Yu rfl)
   | exact res2 rfl (Yu rfl) (Yi rfl (by first | assumption | rfl))
   | exact res2 rfl (Yu rfl) (ZP rfl rfl)
   | exact res2 rfl (Yi rfl (by first | assumption | rfl)) (Yu rfl)
   | exact res2 rfl (Yi rfl (by first | assumption | rfl)) (Yi rfl (by first | assumption | rfl))
   | exact res2 rfl (Yi rfl (by first | assumption | rfl)) (ZP rfl rfl)
   | exact res2 rfl (ZP rfl rfl) (Yu rfl)
   | exact res2 rfl (ZP rfl rfl) (Yi rfl (by first | assumption | rfl))
   | exact res2 rfl (ZP rfl rfl) (ZP rfl rfl)
   | exact res3 rfl (Yu rfl) (Yu rfl) (Yu rfl)
   | exact res3 rfl (Yu rfl) (Yu rfl) (Yi rfl (by first | assumption | rfl))
   | exact res3 rfl (Yu rfl) (Yu rfl) (ZP rfl rfl)
   | exact res3 rfl (Yu rfl) (Yi rfl (by first | assumption | rfl)) (Yu rfl)
   | exact res3 rfl (Yu rfl) (Yi rfl (by first | assumption | rfl)) (Yi rfl (by first | assumption | rfl))
   | exact res3 rfl (Yu rfl) (Yi rfl (by first | assumption | rfl)) (ZP rfl rfl)
   | exact res3 rfl (Yu rfl) (ZP rfl rfl) (Yu rfl)
   | exact res3 rfl (Yu rfl) (ZP rfl rfl) (Yi rfl (by first | assumption | rfl))
   | exact res3 rfl (Yu rfl) (ZP rfl rfl) (ZP rfl rfl)
   | exact res3 rfl (Yi rfl (by first | assumption | rfl)) (Yu rfl) (Yu rfl)
   | exact res3 rfl (Yi rfl (by first | assumption | rfl)) (Yu rfl) (Yi rfl (by first | assumption | rfl))
   | exact res3 rfl (Yi rfl (by first | assumption | rfl)) (Yu rfl) (ZP rfl rfl)
   | exact res3 rfl (Yi rfl (by first | assumption | rfl)) (Yi rfl (by first | assumption | rfl)) (Yu rfl)
   | exact res3 rfl (Yi rfl (by first | assumption | rfl)) (Yi rfl (by first | assumption | rfl)) (Yi rfl (by first | assumption | rfl))
   | exact res3 rfl (Yi rfl (by first | assumption | rfl)) (Yi rfl (by first | assumption | rfl)) (ZP rfl rfl)
   | exact res3 rfl (Yi rfl (by first | assumption | rfl)) (ZP rfl rfl) (Yu rfl)
   | exact res3 rfl (Yi rfl (by first | assumption | rfl)) (ZP rfl rfl) (Yi rfl (by first | assumption | rfl))
   | exact res3 rfl (Yi rfl (by first | assumption | rfl)) (ZP rfl rfl) (ZP rfl rfl)
   | exact res3 rfl (ZP rfl rfl) (Yu rfl) (Yu rfl)
   | exact res3 rfl (ZP rfl rfl) (Yu rfl) (Yi rfl (by first | assumption | rfl))
   | exact res3 rfl (ZP rfl rfl) (Yu rfl) (ZP rfl rfl)
   | exact res3 rfl (ZP rfl rfl) (Yi rfl (by first | assumption | rfl)) (Yu rfl)
   | exact res3 rfl (ZP rfl rfl) (Yi rfl (by first | assumption | rfl)) (Yi rfl (by first | assumption | rfl))
   | exact res3 rfl (ZP rfl rfl) (Yi rfl (by first | assumption | rfl)) (ZP rfl rfl)
   | exact res3 rfl (ZP rfl rfl) (ZP rfl rfl) (Yu rfl)
   | exact res3 rfl (ZP rfl rfl) (ZP rfl rfl) (Yi rfl (by first | assumption | rfl))
   | exact res3 rfl (ZP rfl rfl) (ZP rfl rfl) (ZP rfl rfl))
  (hle : ρ0.le ρ := by first | assumption | exact Hp.le_refl _ | (refine Hp.le_trans ?_ (by assumption); assumption) | solve_by_elim (maxDepth := 6) [Hp.le_trans]) (k : Xo L L' G := by exact tk) (en : Ends G R := by infer_instance) (he : isEnd e = true := by rfl) (hD : x.D = [] := by rfl) (hu : x.u = u := by rfl) :
  TE x e (bodyPostM (Fw none) 0 x.P fn (RK u ρ0 R Post)) E ρ L := te_end he hD hu hr hle k en hp
end
theorem YI {a b : Bool} (h : a = true ↔ b = true) : Value.bool a = Value.bool b := congrArg _ (Bool.eq_iff_iff.2 h)
class SetN (l : List Value) (off n : Nat) (vs : List Value) (l' : outParam (List Value)) : Prop where
 len : vs.length = n
 fit : off + n ≤ l.length
 out : stc l off vs = l'
instance SetN.nil {l : List Value} : SetN l 0 0 [] l := ⟨rfl, by simp, by simp [stc]⟩
instance SetN.cons {a v : Value} {r vs r' : List Value} {n : Nat} [h : SetN r 0 n vs r'] : SetN (a :: r) 0 (n + 1) (v :: vs) (v :: r') := ⟨by
 have := h.len; simp [this], by have := h.fit; simp at this ⊢; omega, by
 have := h.out
 simp only [stc, List.take_zero, List.nil_append, Nat.zero_add, List.length_cons, List.drop_succ_cons, List.cons_append] at this ⊢
 rw [this]⟩
instance SetN.drop {a : Value} {r vs r' : List Value} {o n : Nat} [h : SetN r o n vs r'] : SetN (a :: r) (o + 1) n vs (a :: r') := ⟨h.len, by
 have := h.fit; simp only [List.length_cons]; omega, by
 have := h.out
 simp only [stc, List.take_succ_cons, List.cons_append] at this ⊢
 rw [show o + 1 + vs.length = (o + vs.length) + 1 by omega, List.drop_succ_cons, this]⟩
class GetQ (pl : List (Nat × Nat)) (i : Nat) (off n : outParam Nat) : Prop where
 out : pl[i]? = some (off, n)
instance GetQ.zero {off n : Nat} {r : List (Nat × Nat)} : GetQ ((off, n) :: r) 0 off n := ⟨rfl⟩
instance GetQ.succ {p : Nat × Nat} {r : List (Nat × Nat)} {i off n : Nat} [h : GetQ r i off n] : GetQ (p :: r) (i + 1) off n := ⟨by simpa using h.out⟩
class CellsL (v : Value) (l : outParam (List Value)) : Prop where
 out : v.cells = ⟨l⟩
instance {l : List Value} : CellsL (.agg ⟨l⟩) l := ⟨rfl⟩
instance {k : IntKind} {n : Int} : CellsL (.int k n) [.int k n] := ⟨rfl⟩
instance {b : Bool} : CellsL (.bool b) [.bool b] := ⟨rfl⟩
instance {s : ByteArray} : CellsL (.string s) [.string s] := ⟨rfl⟩
instance {a : Option Addr} : CellsL (.pointer a) [.pointer a] := ⟨rfl⟩
instance {a : Option Addr} {n c : Nat} : CellsL (.slice a n c) [.slice a n c] := ⟨rfl⟩
instance {m : Option Nat} : CellsL (.map m) [.map m] := ⟨rfl⟩
class BuildM (pl : List (Nat × Nat)) (cells : List Value) (ps : List (Nat × Operand)) (vs : List Value) (out : outParam (List Value)) : Prop where
 out : Instr.fill (pl[·]?) ⟨cells⟩ ((ps.map (·.1)).zip vs) = some ⟨out⟩
instance BuildM.nil {pl : List (Nat × Nat)} {cells : List Value} : BuildM pl cells [] [] cells := ⟨rfl⟩
instance BuildM.cons {pl : List (Nat × Nat)} {cells cells' out : List Value} {i off n : Nat} {o : Operand} {ps : List (Nat × Operand)} {v : Value} {l vs : List Value} [h1 : GetQ pl i off n] [h0 : CellsL v l] [h2 : SetN cells off n l cells'] [h3 : BuildM pl cells' ps vs out] : BuildM pl cells ((i, o) :: ps) (v :: vs) out := ⟨by
 simp only [List.map_cons, List.zip_cons_cons]
 rw [fill_cons (pl := (pl[·]?)) h1.out h0.out h2.len h2.fit, h2.out]
 exact h3.out⟩
theorem Zc {x : Cx} {E : Env} {ρ : Hp} {L : SH} {ty : TypeId} {t : Nat} {pl : List (Nat × Nat)} {z out : List Value} {ps : List (Nat × Operand)} {vs : List Value} [hP : ZM x.P t (pl[·]?)] [hz : Zw x.P t (.agg ⟨z⟩)] (hv : evs E (ps.map (·.2)) = some vs) [hB : BuildM pl z ps vs out] :
  Yl x (.build t ⟨ps⟩) ty E ρ L (.agg ⟨out⟩) := y_build hv hB.out
theorem bq2 {a b c d : Int} : ((a == b) = (c == d)) ↔ (a = b ↔ c = d) := by
 rw [Bool.eq_iff_iff, beq_iff_eq, beq_iff_eq]
theorem bqt {a b : Int} : (true = (a == b)) ↔ a = b := by
 rw [eq_comm, beq_iff_eq]
theorem bqf {a b : Int} : (false = (a == b)) ↔ ¬ a = b := by
 rw [eq_comm, beq_eq_false_iff_ne]
end Go.Proofs.E
namespace Go.Proofs.E
open Go
set_option linter.unusedVariables false
set_option linter.unusedSimpArgs false
section
variable {x : Cx} {Q : Exit → Act → World → Prop} {E : Env} {ρ : Hp} {L : SH} {ops : Array Oper} {rest : List Oper} {ty : TypeId} {pos : String} {af : Array Edge}
theorem tl_eff {d b : Nat} {op : Op} {o o' : Obj} {v : Value} {f : Obj → SH} [hU : Upd b L o f]
  (hr : ∀ a w, Ok x.D x.N E a → Sat x.u ρ L w → w.heap[b]? = some o → (execOp a.eval ⟨some d, op, ty, pos, af, none⟩).run x.P w = .ok (.value v) (putB w b o'))
  (hd : Nat.blt d x.N = true) (hn : XW op = true) (k : TL x ops rest Q ((d, v) :: E) ρ (f o')) : TL x ops (⟨some d, op, ty, pos, af, none⟩ :: rest) Q E ρ L := fun a w ha hw => by
 refine Yg rfl hn ?_
 obtain ⟨hw2, hb⟩ := hw.upd hU o'
 rw [hr a w ha hw hb]
 exact k _ _ (ha.put (Nat.le_of_ble_eq_true hd) _) hw2
theorem tl_eff0 {b : Nat} {op : Op} {o o' : Obj} {v : Value} {f : Obj → SH} [hU : Upd b L o f]
  (hr : ∀ a w, Ok x.D x.N E a → Sat x.u ρ L w → w.heap[b]? = some o → (execOp a.eval ⟨none, op, ty, pos, af, none⟩).run x.P w = .ok (.value v) (putB w b o'))
  (hn : XW op = true) (k : TL x ops rest Q E ρ (f o')) : TL x ops (⟨none, op, ty, pos, af, none⟩ :: rest) Q E ρ L := fun a w ha hw => by
 refine Yg rfl hn ?_
 obtain ⟨hw2, hb⟩ := hw.upd hU o'
 rw [hr a w ha hw hb]
 exact k _ _ (ha.put_none _) hw2
theorem Wi {P : Program} {w : World} {b o : Nat} {T : TypeId} {l ys : List Value} (hb : w.heap[b]? = some (.cells ⟨l⟩ T (0, 0))) (hfit : o + ys.length ≤ l.length) (h1 : ys.all (·.oneCell') = true) :
  (storeCells ⟨b, o, none⟩ ys).run P w = .ok () (putB w b (.cells ⟨stc l o ys⟩ T (0, 0))) := by
 have hst := run_storeCells_at P b o T ys 0 ⟨l⟩ w hb (by simpa using hfit) (fun c hc => List.all_eq_true.1 h1 c hc)
 rw [setRow_eq hb] at hst
 simp only [Nat.add_zero] at hst
 exact hst
theorem tl_copyN {d dT sT e sz b o dl dc b2 o2 sl sc : Nat} {T : TypeId} {dst src : Operand} {l ys : List Value} {f : Obj → SH} [hS : ZT x.P dT e] [hZ : ZJ x.P e sz]
  (hdst : ev E dst = some (.slice (some ⟨b, o, none⟩) dl dc)) (hs : ev E src = some (.slice (some ⟨b2, o2, none⟩) sl sc)) [hU : Upd b L (.cells ⟨l⟩ T (0, 0)) f] (hsrc : Src x ρ L b2 o2 ys) (hlen : ys.length = min sl dl * sz)
  (h1 : ys.all (·.oneCell') = true) (hfit : o + ys.length ≤ l.length) (hd : Nat.blt d x.N = true)
  (k : TL x ops rest Q ((d, .int .i64 (min sl dl : Nat)) :: E) ρ (f (.cells ⟨stc l o ys⟩ T (0, 0)))) :
  TL x ops (⟨some d, .call { callee := .builtin .copy, args := #[dst, src], argTypes := #[dT, sT] }, ty, pos, af, none⟩ :: rest) Q E ρ L := by
 refine tl_eff (hU := hU) (o' := .cells ⟨stc l o ys⟩ T (0, 0)) (fun a w ha hw hb => ?_) hd rfl k
 obtain ⟨inf, g1, g2⟩ := hZ.out
 subst g2
 have hf := run_firstCells_some (P := x.P) w inf.size (min sl dl) ⟨b2, o2, none⟩ sl sc ys hlen (fun j v hj => by rw [Yo]; exact hsrc w hw j v hj)
 have hst := Wi (P := x.P) hb hfit h1
 have hr : (Builtin.copy_ #[dT, sT] ty #[.slice (some ⟨b, o, none⟩) dl dc, .slice (some ⟨b2, o2, none⟩) sl sc]).run x.P w = .ok (goInt (min sl dl : Nat)) (putB w b (.cells ⟨stc l o ys⟩ T (0, 0))) := by
  have hm : Nat.min sl dl = min sl dl := rfl
  simp [Builtin.copy_, run_underlying hS.out, sizeOf, typeInfo, g1, Builtin.lenOf, hm, hf, hst]
 simp only [execOp, resolve, Sem.run_bind, Sem.run_pure, Result.andThen_ok, invoke, builtin]
 have hargs : Array.map a.eval #[dst, src] = #[.slice (some ⟨b, o, none⟩) dl dc, .slice (some ⟨b2, o2, none⟩) sl sc] := by simp [ha.eval hdst, ha.eval hs]
 rw [hargs, hr]
 rfl
theorem tl_appIn {d t e sz n cap m cx b b2 o2 : Nat} {s y : Operand} {l ys : List Value} {f : Obj → SH} [hS : ZT x.P t e] [hZ : ZJ x.P e sz]
  (hs : ev E s = some (.slice (some ⟨b, 0, none⟩) n cap)) (hy : ev E y = some (.slice (some ⟨b2, o2, none⟩) m cx)) [hU : Upd b L (.cells ⟨l⟩ e (0, 0)) f] (hsrc : Src x ρ L b2 o2 ys) (hlen : ys.length = m * sz)
  (h1 : ys.all (·.oneCell') = true) (hroom : n + m ≤ cap) (hfit : n * sz + ys.length ≤ l.length) (hd : Nat.blt d x.N = true)
  (k : TL x ops rest Q ((d, .slice (some ⟨b, 0, none⟩) (n + m) cap) :: E) ρ (f (.cells ⟨stc l (n * sz) ys⟩ e (0, 0)))) :
  TL x ops (⟨some d, .call { callee := .builtin .append, args := #[s, y], argTypes := #[t, t] }, ty, pos, af, none⟩ :: rest) Q E ρ L := by
 refine tl_eff (hU := hU) (o' := .cells ⟨stc l (n * sz) ys⟩ e (0, 0)) (fun a w ha hw hb => ?_) hd rfl k
 obtain ⟨inf, g1, g2⟩ := hZ.out
 subst g2
 have hr := run_append_room (P := x.P) w t ty e inf hS.out g1 b n cap ⟨l⟩ hb ⟨b2, o2, none⟩ m cx ys hlen (fun j v hj => by rw [Yo]; exact hsrc w hw j v hj) (fun c hc => List.all_eq_true.1 h1 c hc) hroom (by simpa using hfit)
 rw [setRow_eq hb] at hr
 simp only [execOp, resolve, Sem.run_bind, Sem.run_pure, Result.andThen_ok, invoke, builtin]
 have hargs : Array.map a.eval #[s, y] = #[.slice (some ⟨b, 0, none⟩) n cap, .slice (some ⟨b2, o2, none⟩) m cx] := by simp [ha.eval hs, ha.eval hy]
 rw [hargs, hr]
 rfl
theorem run_append_grow_zeros {P : Program} (w : World) (t tn ty e : TypeId) (i : TypeInfo) (z : Value) (k kn : IntKind) (ht : P.underlying t = some (.slice e)) (htn : P.underlying tn = some (.int kn)) (hi : P.info? e = some i) (hz : i.zero = some z)
  (b : Addr) (sLen sCap : Nat) (olds : List Value) (hlo : olds.length = sLen * i.size) (holds : ∀ j v, olds[j]? = some v → w.cell? (b.add j) = some v)
  (n : Nat) (h0 : 0 < n) (hs : 0 < i.size) (hg : sCap < sLen + n) (h63 : ((sLen + n : Nat) : Int) ≤ 9223372036854775807) (hfit : Builtin.nextslicecap (sLen + n) sCap * i.bytes ≤ 281474976710656) (h48 : n * i.bytes ≤ 281474976710656) :
  (Builtin.append_ #[t, tn] ty #[.slice (some b) sLen sCap, .int k n]).run P w =
   .ok (.slice (some ⟨w.heap.size, 0, none⟩) (sLen + n) (grownCap w (sLen + n) sCap e))
    (w.drew.alloc (.cells (olds.toArray ++ Builtin.zeroCells z.cells n ++ Builtin.zeroCells z.cells (grownCap w (sLen + n) sCap e - (sLen + n))) e)) := by
 have hn : ¬ (sLen + n ≤ sCap) := by omega
 have hw : IntKind.i64.wrap (n : Int) = n := by rw [IntKind.wrap_i64]; omega
 have h63' : ¬ (9223372036854775807 < ((sLen : Int) + (n : Int))) := by omega
 have h48' : ¬ (281474976710656 < Builtin.nextslicecap (sLen + n) sCap * i.bytes) := by omega
 have h48i : ¬ (281474976710656 < (n : Int) * (i.bytes : Int)) := by rw [← Int.natCast_mul]; omega
 have hneg : ¬ ((n : Int) < 0) := by omega
 have hns : ¬ (n * i.size = 0) := Nat.mul_ne_zero (by omega) (by omega)
 have hn0 : n ≠ 0 := by omega
 have hfo := run_firstCells_some (P := P) w.drew i.size sLen b sLen sCap olds hlo (by simpa using holds)
 simp [Builtin.append_, run_underlying ht, run_underlying htn, sizeOf, typeInfo, zeroValue, hi, hz, asInt, asIntOf, hw, hn, hn0, hneg, hns, h63', h48', h48i, Question.forced, hfo, newRow, grownCap]
theorem tl_appZ {d t tn e sz by' i n cap b : Nat} {s y : Operand} {k kn : IntKind} {z : Value} {olds : List Value} [hS : ZT x.P t e] [hN : YV x.P tn kn] [hZ : ZJ x.P e sz] [hB : Zu x.P e by'] [hz : Zw x.P e z]
  (hs : ev E s = some (.slice (some ⟨b, 0, none⟩) i cap)) (hy : ev E y = some (.int k (n : Int))) (hsrc : Src x ρ L b 0 olds) (hlen : olds.length = i * sz) (h0 : 0 < n) (hsz : 0 < sz) (hzs : z.cells.toList.length = sz)
  (hg : cap < i + n) (hb : (i + n) * by' ≤ 140737488355328) (hm : i + n ≤ 9223372036854775807) (hd : Nat.blt d x.N = true)
  (kk : ∀ b' c' ws, i + n ≤ c' → ws.length = (c' - i) * sz → TL x ops rest Q ((d, .slice (some ⟨b', 0, none⟩) (i + n) c') :: E) ρ ([(b', .cells ⟨olds ++ ws⟩ e (0, 0))] :: L)) :
  TL x ops (⟨some d, .call { callee := .builtin .append, args := #[s, y], argTypes := #[t, tn] }, ty, pos, af, none⟩ :: rest) Q E ρ L := fun a w ha hw => by
 refine Yg rfl rfl ?_
 obtain ⟨inf, g1, g2⟩ := hZ.out
 obtain ⟨i2, g3, g4⟩ := hB.out
 obtain ⟨i3, g5, g6⟩ := hz.out
 rw [g1] at g3 g5
 cases g3; cases g5
 subst g2; subst g4
 have hzs' : z.cells.size = inf.size := by simpa using hzs
 have hbn : n * inf.bytes ≤ 140737488355328 := Nat.le_trans (Nat.mul_le_mul_right _ (by omega)) hb
 have hr := run_append_grow_zeros (P := x.P) w t tn ty e inf z k kn hS.out hN.out g1 g6 ⟨b, 0, none⟩ i cap olds hlen (fun j v hj => by rw [Yo]; exact hsrc w hw j v hj) n h0 hsz hg (by omega) (growslice_fits (by omega) hb) (by omega)
 have he : (execOp a.eval ⟨some d, .call { callee := .builtin .append, args := #[s, y], argTypes := #[t, tn] }, ty, pos, af, none⟩).run x.P w = .ok (.value (.slice (some ⟨w.heap.size, 0, none⟩) (i + n) (grownCap w (i + n) cap e)))
   (w.drew.alloc (.cells (olds.toArray ++ Builtin.zeroCells z.cells n ++ Builtin.zeroCells z.cells (grownCap w (i + n) cap e - (i + n))) e)) := by
  simp only [execOp, resolve, Sem.run_bind, Sem.run_pure, Result.andThen_ok, invoke, builtin]
  have hargs : Array.map a.eval #[s, y] = #[.slice (some ⟨b, 0, none⟩) i cap, .int k n] := by simp [ha.eval hs, ha.eval hy]
  rw [hargs, hr]
  rfl
 rw [he]
 have hgc : i + n ≤ grownCap w (i + n) cap e := by simp only [grownCap, Question.cut]; omega
 have hzl : ∀ c, (Builtin.zeroCells z.cells c).toList.length = c * inf.size := fun c => by
  have := size_zeroCells z.cells c
  rw [hzs'] at this; simpa using this
 have hs2 := (hw.drew).new (.cells (olds.toArray ++ Builtin.zeroCells z.cells n ++ Builtin.zeroCells z.cells (grownCap w (i + n) cap e - (i + n))) e (0, 0))
 refine kk w.heap.size (grownCap w (i + n) cap e) ((Builtin.zeroCells z.cells n).toList ++ (Builtin.zeroCells z.cells (grownCap w (i + n) cap e - (i + n))).toList) hgc ?_ _ _ (ha.put (Nat.le_of_ble_eq_true hd) _) ?_
 ·rw [List.length_append, hzl, hzl, ← Nat.add_mul]
  congr 1; omega
 ·have : (⟨olds ++ ((Builtin.zeroCells z.cells n).toList ++ (Builtin.zeroCells z.cells (grownCap w (i + n) cap e - (i + n))).toList)⟩ : Array Value) = olds.toArray ++ Builtin.zeroCells z.cells n ++ Builtin.zeroCells z.cells (grownCap w (i + n) cap e - (i + n)) := by
   apply Array.ext'; simp
  rw [this]
  exact hs2
theorem tl_clear1 {t e sz b o c : Nat} {s : Operand} {T : TypeId} {l zs : List Value} {f : Obj → SH} [hS : ZT x.P t e] [hz : Zw x.P e (.agg ⟨zs⟩)]
  (hs : ev E s = some (.slice (some ⟨b, o, none⟩) 1 c)) [hU : Upd b L (.cells ⟨l⟩ T (0, 0)) f] (hzs : zs.length = sz) (h1 : zs.all (·.oneCell') = true) (hfit : o + sz ≤ l.length)
  (k : TL x ops rest Q E ρ (f (.cells ⟨stc l o zs⟩ T (0, 0)))) :
  TL x ops (⟨none, .call { callee := .builtin .clear, args := #[s], argTypes := #[t] }, ty, pos, af, none⟩ :: rest) Q E ρ L := by
 refine tl_eff0 (hU := hU) (v := .tuple #[]) (o' := .cells ⟨stc l o zs⟩ T (0, 0)) (fun a w ha hw hb => ?_) rfl k
 have hzc : (Builtin.zeroCells (⟨zs⟩ : Array Value) 1).toList = zs := by
  simp only [Builtin.zeroCells, Nat.one_mul, Array.toList_map, Array.toList_range]
  apply List.ext_getElem
  ·simp
  ·intro j h1 h2
   simp at h1
   simp [Nat.mod_eq_of_lt h1, h1]
 have hst := Wi (P := x.P) (ys := zs) hb (by rw [hzs]; exact hfit) h1
 have hr : (Builtin.clear_ #[t] ty #[.slice (some ⟨b, o, none⟩) 1 c]).run x.P w = .ok (.tuple #[]) (putB w b (.cells ⟨stc l o zs⟩ T (0, 0))) := by
  have hzc' : (Builtin.zeroCells (Value.agg ⟨zs⟩).cells 1).toList = zs := hzc
  simp [Builtin.clear_, run_underlying hS.out, Xx hz, hzc', hst]
 simp only [execOp, resolve, Sem.run_bind, Sem.run_pure, Result.andThen_ok, invoke, builtin]
 have hargs : Array.map a.eval #[s] = #[.slice (some ⟨b, o, none⟩) 1 c] := by simp [ha.eval hs]
 rw [hargs, hr]
 rfl
theorem tl_overlaps {d f t e sz b o la ca b2 o2 lb cb : Nat} {s y : Operand} {ats : Array TypeId} {fn : Func} {l l2 : List Value} {T T2 tR : TypeId} (hs : ev E s = some (.slice (some ⟨b, o, none⟩) la ca)) (hy : ev E y = some (.slice (some ⟨b2, o2, none⟩) lb cb))
  [hS : ZT x.P t e] [hZ : ZJ x.P e sz] [hF : Find b L (.cells ⟨l⟩ T (0, 0))] [hF2 : Find b2 L (.cells ⟨l2⟩ T2 (0, 0))] (hlen : l.length ≠ l2.length) (hl2 : l2 ≠ [])
  (hf : x.P.funcs[f]? = some fn) (hn : (fn.name == "runtime.NumGoroutine") = false) (hb : fn.body.isNone = true) (hx : Extern.findNext fn = none) (he : Extern.find fn = some (Extern.SlicesOverlaps.overlaps #[t, t] #[tR])) (hd : Nat.blt d x.N = true)
  (k : TL x ops rest Q ((d, .bool false) :: E) ρ L) :
  TL x ops (⟨some d, .call { callee := .value (.func f), args := #[s, y], argTypes := ats }, ty, pos, af, none⟩ :: rest) Q E ρ L := fun a w ha hw => by
 refine Yg rfl rfl ?_
 have h1 := hw.find hF
 have h2 := hw.find hF2
 have hne : b ≠ b2 := fun e => by
  subst e
  rw [h1] at h2
  have := (Obj.cells.inj (Option.some.inj h2)).1
  exact hlen (by rw [Array.mk.inj this])
 obtain ⟨inf, g1, g2⟩ := hZ.out
 have hov := Go.Lib.run_overlaps_apart (P := x.P) w t tR e hS.out sz (fun w => by simp [sizeOf, typeInfo, g1, g2]) ⟨b, o, none⟩ ⟨b2, o2, none⟩ la ca lb cb hne T T2 l.length l2.length
  (by simp [World.shape?, h1]) (by simp [World.shape?, h2]) (by simpa using hl2) (by simp [World.frozen?, h1]) (by simp [World.frozen?, h1])
 have hcall := run_callFunc_extern hf hn hb hx he #[.slice (some ⟨b, o, none⟩) la ca, .slice (some ⟨b2, o2, none⟩) lb cb] w
 rw [hov] at hcall
 simp only [Result.andThen] at hcall
 have hargs : Array.map a.eval #[s, y] = #[.slice (some ⟨b, o, none⟩) la ca, .slice (some ⟨b2, o2, none⟩) lb cb] := by simp [ha.eval hs, ha.eval hy]
 have hexec : (execOp a.eval ⟨some d, .call { callee := .value (.func f), args := #[s, y], argTypes := ats }, ty, pos, af, none⟩).run x.P w = .ok (.value (.bool false)) w := by
  simp only [execOp, resolve, hargs, Act.eval, Deferred.ofValue, Sem.run_bind, Sem.run_pure, Result.andThen_ok, invoke]
  simpa using hcall
 rw [hexec]
 exact k _ _ (ha.put (Nat.le_of_ble_eq_true hd) _) hw
theorem flatN_len {α : Type} {g : α → List Value} {sz : Nat} (hg : ∀ x, (g x).length = sz) (l : List α) : ((l.map g).flatten).length = l.length * sz := by
 induction l with
 | nil => simp
 | cons a r ih => simp only [List.map_cons, List.flatten_cons, List.length_append, List.length_cons, hg, ih, Nat.add_mul]; omega
theorem flatN_take {α : Type} {g : α → List Value} {sz : Nat} (hg : ∀ x, (g x).length = sz) : ∀ (l : List α) (k : Nat), ((l.map g).flatten).take (k * sz) = ((l.take k).map g).flatten
 | [], k => by simp
 | a :: r, 0 => by simp
 | a :: r, k + 1 => by
  simp only [List.map_cons, List.flatten_cons, List.take_succ_cons]
  rw [List.take_append, hg, List.take_of_length_le (by rw [hg, Nat.add_mul]; omega), show (k + 1) * sz - sz = k * sz by rw [Nat.add_mul]; omega, flatN_take hg r k]
theorem flatN_drop {α : Type} {g : α → List Value} {sz : Nat} (hg : ∀ x, (g x).length = sz) : ∀ (l : List α) (k : Nat), ((l.map g).flatten).drop (k * sz) = ((l.drop k).map g).flatten
 | [], k => by simp
 | a :: r, 0 => by simp
 | a :: r, k + 1 => by
  simp only [List.map_cons, List.flatten_cons, List.drop_succ_cons]
  rw [List.drop_append, hg, List.drop_of_length_le (by rw [hg, Nat.add_mul]; omega), show (k + 1) * sz - sz = k * sz by rw [Nat.add_mul]; omega, flatN_drop hg r k, List.nil_append]
theorem stcN_mid {A B B' C : List Value} (h : B'.length = B.length) : stc (A ++ (B ++ C)) A.length B' = A ++ (B' ++ C) := by
 unfold stc
 rw [List.take_left' rfl, h, List.append_assoc]
 congr 2
 rw [← List.append_assoc, List.drop_left' (by simp)]
end
end Go.Proofs.E
namespace Go.Proofs.E
open Go
set_option linter.unusedVariables false
theorem Spec.thaw {P : Program} {f : FuncId} {args : List Value} {ρ : Hp} {C L : SH} {Post : Value → SH → Prop} (h : ∀ ρ1, ρ.le ρ1 → (∀ p ∈ C.flatten, ρ1 p.1 = some p.2) → Spec P f args ρ1 L (fun v ρ' L' => ρ' = ρ1 ∧ Post v L')) :
  Spec P f args ρ (C ++ L) (fun v ρ' L' => ρ' = ρ ∧ ∃ L2, Post v L2 ∧ L' = C ++ L2) := fun u R w hw => by
 have hw1 : Sat u ρ (C.flatten :: (L ++ R)) w := hw.perm (by simp)
 obtain ⟨h1, hle, hf⟩ := hw1.freeze
 have hap : ∀ p ∈ C.flatten, ρ p.1 = none := fun p hp => hw1.apart p (by simp only [List.flatten_cons, List.mem_append]; exact .inl hp)
 have hnd := hw1.nodup
 simp only [List.flatten_cons, List.map_append, List.nodup_append] at hnd
 refine (h _ hle hf u R w h1).mono ?_
 rintro e w' ⟨v, ρ', L', h2, h3, h4, rfl, h5⟩
 refine ⟨v, ρ, C ++ L', h2, Hp.le_refl _, ?_, rfl, L', h5, rfl⟩
 have hne : ∀ p ∈ (L' ++ R).flatten, ∀ q ∈ C.flatten, p.1 ≠ q.1 := fun p hp q hq e => by
  have a1 := h4.apart p hp
  rw [e, hf q hq] at a1
  cases a1
 have key : Sat u ρ (C.flatten :: (L' ++ R)) w' := by
  refine ⟨h4.os, h4.tape, h4.output, ?_, ?_, ?_, fun b o hb => h4.imm b o (hle b o hb)⟩
  ·simp only [List.flatten_cons, List.map_append, List.nodup_append]
   refine ⟨hnd.1, ?_, ?_⟩
   ·have := h4.nodup
    simpa [List.nodup_append] using this
   ·intro a ha b hb e
    obtain ⟨q, hq, rfl⟩ := List.mem_map.1 ha
    obtain ⟨p, hp, rfl⟩ := List.mem_map.1 (by simpa using hb : b ∈ List.map Prod.fst (L' ++ R).flatten)
    exact hne p hp q hq e.symm
  ·intro p hp
   simp only [List.flatten_cons, List.mem_append] at hp
   rcases hp with hp | hp
   ·exact h4.imm _ _ (hf p hp)
   ·exact h4.here p (by simpa using hp)
  ·intro p hp
   simp only [List.flatten_cons, List.mem_append] at hp
   rcases hp with hp | hp
   ·exact hap p hp
   ·have a1 := h4.apart p (by simpa using hp)
    cases hx : ρ p.1 with
    | none => rfl
    | some o => rw [hle _ _ hx] at a1; cases a1
 exact key.perm (by simp)
end Go.Proofs.E
namespace Go.Proofs.E
open Go Go.Lib
set_option linter.unusedVariables false
set_option linter.unusedSimpArgs false
set_option linter.unusedSectionVars false
section
variable {x : Cx} {Q : Exit → Act → World → Prop} {E : Env} {ρ : Hp} {L L1 : SH} {ops : Array Oper} {rest : List Oper} {ty : TypeId} {pos : String} {af : Array Edge}
theorem GetL.get {l : List Value} {d : Nat} {v : Value} (h : GetL l d v) : l[d]? = some v := h.out
theorem stc_midP {P l S l' : List Value} {o d : Nat} {vs : List Value} (hP : P.length = o) (hd : d + vs.length ≤ l.length) (h : stc l d vs = l') : stc (P ++ (l ++ S)) (o + d) vs = P ++ (l' ++ S) := by
 subst h
 unfold stc
 subst hP
 rw [List.take_append, List.take_of_length_le (by omega), Nat.add_sub_cancel_left, List.take_append_of_le_length (by omega), Nat.add_assoc, List.drop_append, List.drop_of_length_le (show P.length ≤ P.length + (d + vs.length) by omega), Nat.add_sub_cancel_left, List.drop_append_of_le_length hd]
 simp only [List.nil_append, List.append_assoc]
theorem tl_store_mid {t b o d : Nat} {q p : Operand} {P l l' S : List Value} {T : TypeId} {v : Value} {f : Obj → SH} (ho : ev E q = some (.pointer (some ⟨b, o + d, none⟩))) (hp : ev E p = some v) (hP : P.length = o) (h1 : v.oneCell' = true) [hZ : ZJ x.P t 1] [hU : Upd b L (.cells ⟨P ++ (l ++ S)⟩ T (0, 0)) f]
  [hS : SetL l d v l'] (k : TL x ops rest Q E ρ (f (.cells ⟨P ++ (l' ++ S)⟩ T (0, 0)))) :
  TL x ops (⟨none, .store t q p, ty, pos, af, none⟩ :: rest) Q E ρ L := by
 refine tl_store_s ho hp h1 (ble_le (by have := hS.out.1; simp only [List.length_append]; omega)) ?_
 rw [stc_midP hP (by have := hS.out.1; simp only [List.length_singleton]; omega) hS.out.2]
 exact k
theorem tl_store_midA {t b o n : Nat} {q p : Operand} {P l vs S : List Value} {T : TypeId} {f : Obj → SH} (ho : ev E q = some (.pointer (some ⟨b, o, none⟩))) (hp : ev E p = some (.agg ⟨vs⟩)) (hP : P.length = o) (hl : l.length = n) (hn : vs.length = n) (h1 : vs.all (·.oneCell') = true) [hZ : ZJ x.P t n] [hU : Upd b L (.cells ⟨P ++ (l ++ S)⟩ T (0, 0)) f]
  (k : TL x ops rest Q E ρ (f (.cells ⟨P ++ (vs ++ S)⟩ T (0, 0)))) :
  TL x ops (⟨none, .store t q p, ty, pos, af, none⟩ :: rest) Q E ρ L := by
 refine tl_store_a ho hp hn h1 (ble_le (by simp only [List.length_append]; omega)) ?_
 have := stc_midP (P := P) (l := l) (S := S) (o := o) (d := 0) (vs := vs) (l' := vs) hP (by omega) (by simp [stc, hn, ← hl])
 rw [Nat.add_zero] at this
 rw [this]
 exact k
theorem tl_clearN {t e sz b o c n : Nat} {s : Operand} {T : TypeId} {l : List Value} {z : Value} {f : Obj → SH} [hS : ZT x.P t e] [hz : Zw x.P e z]
  (hs : ev E s = some (.slice (some ⟨b, o, none⟩) n c)) [hU : Upd b L (.cells ⟨l⟩ T (0, 0)) f] (hzs : z.cells.toList.length = sz) (h1 : z.cells.toList.all (·.oneCell') = true) (hfit : o + n * sz ≤ l.length) (hn : 0 < n)
  (k : ∀ ws : List Value, ws.length = n * sz → TL x ops rest Q E ρ (f (.cells ⟨stc l o ws⟩ T (0, 0)))) :
  TL x ops (⟨none, .call { callee := .builtin .clear, args := #[s], argTypes := #[t] }, ty, pos, af, none⟩ :: rest) Q E ρ L := by
 have hzl : (Builtin.zeroCells z.cells n).toList.length = n * sz := by
  simp only [Builtin.zeroCells, Array.toList_map, Array.toList_range, List.length_map, List.length_range]
  rw [← hzs, Array.length_toList]
 have hzo : (Builtin.zeroCells z.cells n).toList.all (·.oneCell') = true := by
  rw [List.all_eq_true]
  intro v hv
  simp only [Builtin.zeroCells, Array.toList_map, Array.toList_range, List.mem_map, List.mem_range] at hv
  obtain ⟨j, hj, rfl⟩ := hv
  have hpos : 0 < z.cells.size := Nat.pos_of_ne_zero (fun e => by rw [e] at hj; simp at hj)
  have hlt := Nat.mod_lt j hpos
  refine List.all_eq_true.1 h1 _ ?_
  simp [hlt]
 refine tl_eff0 (hU := hU) (v := .tuple #[]) (o' := .cells ⟨stc l o (Builtin.zeroCells z.cells n).toList⟩ T (0, 0)) (fun a w ha hw hb => ?_) rfl (k _ hzl)
 have hst := Wi (P := x.P) (ys := (Builtin.zeroCells z.cells n).toList) hb (by rw [hzl]; exact hfit) hzo
 have hr : (Builtin.clear_ #[t] ty #[.slice (some ⟨b, o, none⟩) n c]).run x.P w = .ok (.tuple #[]) (putB w b (.cells ⟨stc l o (Builtin.zeroCells z.cells n).toList⟩ T (0, 0))) := by
  obtain ⟨m, rfl⟩ : ∃ m, n = m + 1 := ⟨n - 1, by omega⟩
  simp [Builtin.clear_, run_underlying hS.out, Xx hz, hst]
 simp only [execOp, resolve, Sem.run_bind, Sem.run_pure, Result.andThen_ok, invoke, builtin]
 have hargs : Array.map a.eval #[s] = #[.slice (some ⟨b, o, none⟩) n c] := by simp [ha.eval hs]
 rw [hargs, hr]
 rfl
theorem TE.perm {e : Exit} {L' : SH} (h : TE x e Q E ρ L') (hL : L.flatten.Perm L'.flatten) : TE x e Q E ρ L := fun a w ha hw => h a w ha (hw.perm hL)
theorem TE.sub {e : Exit} {L' : SH} (h : TE x e Q E ρ L') (hL : List.Sublist L'.flatten L.flatten) : TE x e Q E ρ L := fun a w ha hw => h a w ha (hw.sub hL)
theorem TC.sub {c : Code} {L' : SH} (h : TC x c Q E ρ L') (hL : List.Sublist L'.flatten L.flatten) : TC x c Q E ρ L := fun a w ha hw => h a w ha (hw.sub hL)
theorem TL.sub {l : List Oper} {L' : SH} (h : TL x ops l Q E ρ L') (hL : List.Sublist L'.flatten L.flatten) : TL x ops l Q E ρ L := fun a w ha hw => h a w ha (hw.sub hL)
end
theorem Hp.up {ρ ρ' : Hp} (h : ρ.le ρ') {b : Nat} {o : Obj} (hb : ρ b = some o) : ρ' b = some o := h _ _ hb
section
variable {x : Cx} {Q : Exit → Act → World → Prop} {E : Env} {ρ : Hp} {L : SH} {ops : Array Oper} {rest : List Oper} {ty : TypeId} {pos : String} {af : Array Edge}
theorem q_get {P q : List Value} {o d : Nat} {v : Value} (hP : P.length = o) (h : q[d]? = some v) : (P ++ q)[o + d]? = some v := by
 rw [← hP, List.getElem?_append_right (by omega), Nat.add_sub_cancel_left, h]
theorem stc_q {P q q' : List Value} {o d : Nat} {vs : List Value} (hP : P.length = o) (h : stc q d vs = q') : stc (P ++ q) (o + d) vs = P ++ q' := by
 subst h
 unfold stc
 subst hP
 rw [List.take_append, List.take_of_length_le (by omega), Nat.add_sub_cancel_left, Nat.add_assoc, List.drop_append, List.drop_of_length_le (show P.length ≤ P.length + (d + vs.length) by omega), Nat.add_sub_cancel_left]
 simp only [List.nil_append, List.append_assoc]
theorem ZX {t b o d : Nat} {m p : Operand} {P q q' : List Value} {T : TypeId} {v : Value} {f : Obj → SH} (ho : ev E m = some (.pointer (some ⟨b, o + d, none⟩))) (hp : ev E p = some v) (hP : P.length = o) (h1 : v.oneCell' = true) [hZ : ZJ x.P t 1] [hU : Upd b L (.cells ⟨P ++ q⟩ T (0, 0)) f]
  [hS : SetL q d v q'] (k : TL x ops rest Q E ρ (f (.cells ⟨P ++ q'⟩ T (0, 0)))) :
  TL x ops (⟨none, .store t m p, ty, pos, af, none⟩ :: rest) Q E ρ L := by
 refine tl_store_s ho hp h1 (ble_le (by have := hS.out.1; simp only [List.length_append]; omega)) ?_
 rw [stc_q hP hS.out.2]
 exact k
end
theorem Spec.freeze {P : Program} {f : FuncId} {args : List Value} {ρ : Hp} {L : SH} {Post : Value → Hp → SH → Prop} {Post2 : Value → Hp → Prop} (h : Spec P f args ρ L Post)
  (k : ∀ v ρ' L', ρ.le ρ' → Post v ρ' L' → ∀ ρ2, ρ'.le ρ2 → (∀ p ∈ L'.flatten, ρ2 p.1 = some p.2) → Post2 v ρ2) : Spec P f args ρ L (fun v ρ2 L2 => Post2 v ρ2 ∧ L2 = []) := fun u R w hw => by
 refine (h u R w hw).mono ?_
 rintro e w' ⟨v, ρ', L', h2, h3, h4, h5⟩
 have h6 : Sat u ρ' (L'.flatten :: R) w' := h4.perm (by simp)
 obtain ⟨h7, hle, hf⟩ := h6.freeze
 exact ⟨v, _, [], h2, Hp.le_trans h3 hle, h7, k v ρ' L' h3 h5 _ hle hf, rfl⟩
section
variable {x : Cx} {Q : Exit → Act → World → Prop} {E : Env} {ρ : Hp} {L L1 L2 : SH} {ops : Array Oper} {l : List Oper} {c d : List (Nat × Obj)} {e : Exit} {y : Code}
theorem perm_split (h : Rem (c ++ d) L L1) : L.flatten.Perm (c :: d :: L1).flatten := h.out.trans (by simp)
theorem perm_merge (h : Rem c L L1) (k : Rem d L1 L2) : L.flatten.Perm ((c ++ d) :: L2).flatten := by
 refine h.out.trans ?_
 simp only [List.flatten_cons, List.append_assoc]
 exact List.Perm.append_left _ (by simpa using k.out)
theorem te_split (c d : List (Nat × Obj)) (k : TE x e Q E ρ (c :: d :: L1)) (h : Rem (c ++ d) L L1 := by repeat (first | exact Yj | apply Yr | apply rem_app')) : TE x e Q E ρ L := k.perm (perm_split h)
theorem te_merge (c d : List (Nat × Obj)) (k : TE x e Q E ρ ((c ++ d) :: L2)) (h : Rem c L L1 := by repeat (first | exact Yj | apply Yr | apply rem_app')) (h2 : Rem d L1 L2 := by repeat (first | exact Yj | apply Yr | apply rem_app')) : TE x e Q E ρ L := k.perm (perm_merge h h2)
end
end Go.Proofs.E
