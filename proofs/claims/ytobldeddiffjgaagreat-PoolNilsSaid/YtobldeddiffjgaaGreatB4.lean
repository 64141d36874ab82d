/- The law PoolNils. Part 4 of 18. -/
import Derived.Test.YtobldeddiffjgaaGreatB3
import Derived.Test.YtobldeddiffjgaaGreatChecked
import Derived.KernelRfl
namespace Go.Proofs.E
open Go
set_option linter.unusedVariables false
set_option linter.unusedSimpArgs false
def IterS (P : Program) (g : FuncId) (fs cs : List Value) {α : Type} (enc : Hp → α → List Value → Prop) (ρ0 : Hp) (S : List α → SH) (xs : List α) : Prop :=
 ∀ (l : Nat) (J : List α → Hp → SH → Prop) (Jx : List α → Hp → SH → Prop), (∀ pre ρ ρ' Lj, ρ.le ρ' → J pre ρ Lj → J pre ρ' Lj) →
  (∀ pre y vs ρ Lj, (pre ++ [y]) <+: xs → ρ0.le ρ → enc ρ y vs → J pre ρ Lj → XZ P l vs ρ (S (pre ++ [y]) ++ Lj) (YP (S (pre ++ [y])) (J (pre ++ [y])) (Jx (pre ++ [y])))) →
  ∀ ρ Lj, ρ0.le ρ → J [] ρ Lj → Spec P g (fs ++ [.func (.yield l) ⟨[]⟩ ⟨[]⟩] ++ cs) ρ (S [] ++ Lj) (fun v ρ' L' => ∃ Lj', (L' = S xs ++ Lj' ∧ J xs ρ' Lj') ∨ ∃ pre, L' = S pre ++ Lj' ∧ Jx pre ρ' Lj')
section
variable {x : Cx} {Q : Exit → Act → World → Prop} {E : Env} {ρ ρ0 : Hp} {L : SH} {l : Nat} {r : Loop}
theorem tc_rangeFuncS {fo : Operand} {ps : List Nat} {assign body : Code} {g : Nat} {fs cs : List Value} {α : Type} {enc : Hp → α → List Value → Prop} {S : List α → SH} {L0 R0 R : SH} {xs : List α} (hro : x.ro = none)
  (hf : ev E fo = some (.func (.func g) ⟨fs⟩ ⟨cs⟩)) [hF : Yc x.P g] (hI : IterS x.P g fs cs enc ρ0 S xs) (hle : ρ0.le ρ) (hps : ∀ ρ y vs, enc ρ y vs → vs.length = ps.length) (hpN : ps.all (fun p => Nat.blt p x.N) = true)
  (J : List α → Hp → SH → Prop) (Jx : List α → Code → Hp → SH → Prop) (k1 : Xw L (S []) R0) (k2 : Xw R0 L0 R) (hM : ∀ pre ρ ρ' Lj, ρ.le ρ' → J pre ρ Lj → J pre ρ' Lj) (h0 : J [] ρ L0)
  (hround : ∀ l tm r pre y vs ρ' Lu u R', (pre ++ [y]) <+: xs → ρ0.le ρ' → enc ρ' y vs → J pre ρ' Lu → r.state = .ready → Rec tm ⟨ps⟩ assign body r →
   TC ⟨some l, x.P, u, [], x.N⟩ assign (Exit.then (KB x.P l body (RQ x.P u ρ' R' l (YP (S (pre ++ [y])) (JH l (Rec tm ⟨ps⟩ assign body) (J (pre ++ [y]))) (XH l (Rec tm ⟨ps⟩ assign body) (Jx (pre ++ [y])))))) QF)
    (envP ps vs E) ρ' ([(l, .loop r)] :: (S (pre ++ [y]) ++ (Lu ++ R'))))
  (hdone : ∀ D0 ρ' Lu, ρ.le ρ' → J xs ρ' Lu → TE { x with D := [{ target := .collected D0, args := #[] }] ++ x.D } .normal Q E ρ' ([(D0, .deferred (some []))] :: (S xs ++ (Lu ++ R))))
  (hstop : ∀ D0 pre c ρ' Lu, ρ.le ρ' → Jx pre c ρ' Lu → TC { x with D := [{ target := .collected D0, args := #[] }] ++ x.D } c Q E ρ' ([(D0, .deferred (some []))] :: (S pre ++ (Lu ++ R)))) :
  TC x (.rangeFunc fo ⟨ps⟩ assign body) Q E ρ L := fun a w ha hw => by
 obtain ⟨ro, P, u, D, N⟩ := x
 simp only at hro; subst hro
 dsimp only at *
 refine wpIn_rangeFunc fun fn _ => ?_
 have hw0 : Sat u ρ (S [] ++ (L0 ++ R)) w := hw.perm (by
  refine k1.out.trans ?_
  simp only [List.flatten_append]
  exact List.Perm.append_left _ (by simpa using k2.out))
 have hw1 := hw0.new (.deferred (some []))
 generalize hr0 : ({ state := .ready, pending := none, fn, tmps := a.tmps, params := ⟨ps⟩, assign, body, defers := w.heap.size } : Loop) = r0
 have hw2 := hw1.new (.loop r0)
 have hsz : ({ w with heap := w.heap.push (.deferred (some [])) } : World).heap.size = w.heap.size + 1 := by simp
 rw [hsz] at hw2
 have hrec0 : Rec a.tmps ⟨ps⟩ assign body r0 := by subst hr0; exact ⟨rfl, rfl, rfl, rfl⟩
 have hst0 : r0.state = .ready ∧ r0.pending = none := by subst hr0; exact ⟨rfl, rfl⟩
 have henter := run_enterLoop_outer (P := P) (w := w) fn a.tmps ⟨ps⟩ assign body
 rw [hr0] at henter
 have hres : (resolve a.eval (rangeCall fo (w.heap.size + 1)) 0).run P ((w.alloc (.deferred (some []))).alloc (.loop r0)) =
   .ok { target := .fn (.func g) ⟨cs⟩, args := ⟨fs ++ [.func (.yield (w.heap.size + 1)) ⟨[]⟩ ⟨[]⟩]⟩ } ((w.alloc (.deferred (some []))).alloc (.loop r0)) := by
  simp only [resolve, ha.eval hf, Deferred.ofValue, Sem.run_pure]
  simp [Act.eval]
 refine ⟨w.heap.size + 1, _, _, _, _, g, ⟨fs ++ [.func (.yield (w.heap.size + 1)) ⟨[]⟩ ⟨[]⟩] ++ cs⟩, (w.alloc (.deferred (some []))).alloc (.loop r0), henter, hres, fun _ _ => trivial, ?_, fun h => by simp [Fw, Fence.wide] at h, ?_⟩
 ·simp only [invoke]
  have := run_callFunc hF (⟨fs ++ [.func (.yield (w.heap.size + 1)) ⟨[]⟩ ⟨[]⟩]⟩ ++ ⟨cs⟩) ((w.alloc (.deferred (some []))).alloc (.loop r0))
  simpa using this
 generalize hl : w.heap.size + 1 = l at *
 generalize hD0 : w.heap.size = D0 at *
 have hy : ∀ pre y vs ρ' Lj, (pre ++ [y]) <+: xs → ρ0.le ρ' → enc ρ' y vs → JH l (Rec a.tmps ⟨ps⟩ assign body) (J pre) ρ' Lj → XZ P l vs ρ' (S (pre ++ [y]) ++ Lj) (YP (S (pre ++ [y])) (JH l (Rec a.tmps ⟨ps⟩ assign body) (J (pre ++ [y]))) (XH l (Rec a.tmps ⟨ps⟩ assign body) (Jx (pre ++ [y])))) := by
  intro pre y vs ρ' Lj hpre hle' hen hJ
  obtain ⟨r, Lu, rfl, hrs, hrp, hrr, hJu⟩ := hJ
  intro u' R' w' hw'
  have hlr := hw'.here (l, .loop r) (by simp)
  have hargs : (⟨vs⟩ : Array Value).size = r.params.size := by rw [hrr.params]; simpa using hps _ _ _ hen
  refine ⟨_, _, _, _, run_yield hlr hargs, ?_⟩
  have hround' := hround l a.tmps r pre y vs ρ' Lu u' R' hpre hle' hen hJu hrs hrr
  have hsat : Sat u' ρ' ([(l, .loop r)] :: (S (pre ++ [y]) ++ (Lu ++ R'))) w' := hw'.perm (by simp)
  have hok : Ok [] N (envP ps vs E) { tmps := (r.params.zip ⟨vs⟩).foldl (fun tmps (t, a) => tmps.setIfInBounds t a) r.tmps, defers := [] } := by
   have h1 : Ok [] N E { tmps := a.tmps, defers := [] } := ⟨rfl, ha.size, ha.get⟩
   have := Ok.putP ps vs E a.tmps hpN h1
   rw [hrr.params, hrr.tmps]
   have e : ((⟨ps⟩ : Array Nat).zip ⟨vs⟩) = ⟨ps.zip vs⟩ := by simp
   rw [e]
   simpa using this
  have hwp := hround' _ w' hok hsat
  rw [hrr.assign, hrr.body]
  refine roundIn_of_wpIn (F := Fw none) (n := 0) trivial ?_
  exact hwp
 have hspec := hI l (fun pre => JH l (Rec a.tmps ⟨ps⟩ assign body) (J pre)) (fun pre => XH l (Rec a.tmps ⟨ps⟩ assign body) (Jx pre)) (fun pre ρ1 ρ2 Lj h12 ⟨r, Lu, e1, e2, e3, e4, e5⟩ => ⟨r, Lu, e1, e2, e3, e4, hM _ _ _ _ h12 e5⟩) hy ρ ([(l, .loop r0)] :: L0) hle ⟨r0, L0, rfl, hst0.1, hst0.2, hrec0, h0⟩
 have hcall := hspec u ([(D0, .deferred (some []))] :: R) ((w.alloc (.deferred (some []))).alloc (.loop r0)) (hw2.perm (by
  simp only [List.flatten_cons, List.flatten_append, List.append_assoc, List.cons_append, List.singleton_append, List.nil_append]
  refine List.Perm.trans (l₂ := (S []).flatten ++ ((l, .loop r0) :: (D0, .deferred (some [])) :: (L0.flatten ++ R.flatten))) ?_ ?_
  ·refine List.Perm.trans ?_ List.perm_middle.symm
   refine List.Perm.cons _ ?_
   exact List.perm_middle.symm
  ·refine List.Perm.append_left _ (List.Perm.cons _ ?_)
   exact List.perm_middle.symm))
 refine calls_ro (CallsIn.mono hcall ?_)
 rintro e w3 ⟨v, ρ', L', rfl, hle', hsat, Lj', hor⟩
 have perm4 : ∀ (S : SH) (c : List (Nat × Obj)) (Lu : SH), (S ++ (c :: Lu) ++ ([(D0, .deferred (some []))] :: R)).flatten.Perm (c :: ([(D0, .deferred (some []))] :: (S ++ (Lu ++ R)))).flatten := fun S c Lu => by
  simp only [List.flatten_cons, List.flatten_append, List.append_assoc, List.cons_append, List.singleton_append, List.nil_append]
  refine List.Perm.trans ?_ (List.Perm.append_left c (List.perm_middle (l₁ := S.flatten ++ Lu.flatten) (a := (D0, .deferred (some []))) (l₂ := R.flatten) |>.trans (by simp)))
  rw [← List.append_assoc, ← List.append_assoc c]
  refine List.Perm.trans (List.Perm.append_right _ List.perm_append_comm) ?_
  simp only [List.append_assoc]
  exact List.Perm.refl _
 rcases hor with ⟨rfl, r, Lu, rfl, hrs, hrp, hrr, hJu⟩ | ⟨pre, rfl, r, Lu, c, rfl, hrs, hrp, hrr, hJu⟩
 ·have hs1 := hsat.perm (perm4 _ [(l, .loop r)] Lu)
  have hlr := hs1.here (l, .loop r) (by simp)
  refine ⟨r.pending, _, run_endLoop hlr (by rw [hrs]; simp), ?_⟩
  rw [hrp]
  have hs2 := (hs1.put (.loop { r with state := .exhausted, pending := none })).sub (L' := [(D0, .deferred (some []))] :: (S xs ++ (Lu ++ R))) (by simp)
  exact hdone D0 ρ' Lu hle' hJu _ _ ⟨by simp [ha.defers], ha.size, ha.get⟩ hs2
 ·have hs1 := hsat.perm (perm4 _ [(l, .loop r)] Lu)
  have hlr := hs1.here (l, .loop r) (by simp)
  refine ⟨r.pending, _, run_endLoop hlr (by rw [hrs]; simp), ?_⟩
  rw [hrp]
  have hs2 := (hs1.put (.loop { r with state := .exhausted, pending := some c })).sub (L' := [(D0, .deferred (some []))] :: (S pre ++ (Lu ++ R))) (by simp)
  exact hstop D0 pre c ρ' Lu hle' hJu _ _ ⟨by simp [ha.defers], ha.size, ha.get⟩ hs2
end
end Go.Proofs.E
namespace Go.Proofs.E
open Go Go.RowKit Go.WideShapes
set_option linter.unusedVariables false
set_option linter.unusedSimpArgs false
section
variable {H : Type} {enc : TypeId × Value → H} {P : Program} {w : World}
def OpnS (enc : TypeId × Value → H) (P : Program) (w : World) (t : TypeId) {α : Type} (R : List Value → α → Prop) : Prop :=
 ∀ fuel cs x, DataW.trod enc P w 0 (fun _ => true) true fuel t cs = some x → (∀ n ∈ x.1.weights P t, n ≤ reachBytes) → ∃ a, R cs a
theorem OpnS.mono {t : TypeId} {α β : Type} {R : List Value → α → Prop} {R' : List Value → β → Prop} (h : OpnS enc P w t R) (k : ∀ cs a, R cs a → ∃ b, R' cs b) : OpnS enc P w t R' := fun f cs x hx hw => by
 obtain ⟨a, ha⟩ := h f cs x hx hw
 exact k cs a ha
end
end Go.Proofs.E
namespace Go.Proofs.E
open Go
set_option linter.unusedVariables false
attribute [local irreducible] Yl TL TC TE Spec XZ R1 Hp.le EnvLe TS TR YS Zq
section
variable {x : Cx} {E : Env} {ρ ρ0 : Hp} {L : SH} {v : Value}
theorem qF {e : Exit} {fn : Func} {u : World} {R : SH} {Post : Value → Hp → SH → Prop} {L' G : SH} (hp : Post v ρ L')
  (hr : ∀ a w, Ok x.D x.N E a → Sat x.u ρ L w → (results fn a.tmps).run x.P w = .ok v w := by
   first
   | exact res0 rfl
   | exact res1 rfl (Yn rfl)
   | exact res1 rfl (ZX rfl (by first | assumption | rfl))
   | exact res1 rfl (ZH rfl rfl)
   | exact res2 rfl (Yn rfl) (Yn rfl)
   | exact res2 rfl (Yn rfl) (ZX rfl (by first | assumption | rfl))
   | exact res2 rfl (Yn rfl) (ZH rfl rfl)
   | exact res2 rfl (ZX rfl (by first | assumption | rfl)) (Yn rfl)
   | exact res2 rfl (ZX rfl (by first | assumption | rfl)) (ZX rfl (by first | assumption | rfl))
   | exact res2 rfl (ZX rfl (by first | assumption | rfl)) (ZH rfl rfl)
   | exact res2 rfl (ZH rfl rfl) (Yn rfl)
   | exact res2 rfl (ZH rfl rfl) (ZX rfl (by first | assumption | rfl))
   | exact res2 rfl (ZH rfl rfl) (ZH rfl rfl)
   | exact Vk rfl (Yn rfl) (Yn rfl) (Yn rfl)
   | exact Vk rfl (Yn rfl) (Yn rfl) (ZX rfl (by first | assumption | rfl))
   | exact Vk rfl (Yn rfl) (Yn rfl) (ZH rfl rfl)
   | exact Vk rfl (Yn rfl) (ZX rfl (by first | assumption | rfl)) (Yn rfl)
   | exact Vk rfl (Yn rfl) (ZX rfl (by first | assumption | rfl)) (ZX rfl (by first | assumption | rfl))
   | exact Vk rfl (Yn rfl) (ZX rfl (by first | assumption | rfl)) (ZH rfl rfl)
   | exact Vk rfl (Yn rfl) (ZH rfl rfl) (Yn rfl)
   | exact Vk rfl (Yn rfl) (ZH rfl rfl) (ZX rfl (by first | assumption | rfl))
   | exact Vk rfl (Yn rfl) (ZH rfl rfl) (ZH rfl rfl)
   | exact Vk rfl (ZX rfl (by first | assumption | rfl)) (Yn rfl) (Yn rfl)
   | exact Vk rfl (ZX rfl (by first | assumption | rfl)) (Yn rfl) (ZX rfl (by first | assumption | rfl))
   | exact Vk rfl (ZX rfl (by first | assumption | rfl)) (Yn rfl) (ZH rfl rfl)
   | exact Vk rfl (ZX rfl (by first | assumption | rfl)) (ZX rfl (by first | assumption | rfl)) (Yn rfl)
   | exact Vk rfl (ZX rfl (by first | assumption | rfl)) (ZX rfl (by first | assumption | rfl)) (ZX rfl (by first | assumption | rfl))
   | exact Vk rfl (ZX rfl (by first | assumption | rfl)) (ZX rfl (by first | assumption | rfl)) (ZH rfl rfl)
   | exact Vk rfl (ZX rfl (by first | assumption | rfl)) (ZH rfl rfl) (Yn rfl)
   | exact Vk rfl (ZX rfl (by first | assumption | rfl)) (ZH rfl rfl) (ZX rfl (by first | assumption | rfl))
   | exact Vk rfl (ZX rfl (by first | assumption | rfl)) (ZH rfl rfl) (ZH rfl rfl)
   | exact Vk rfl (ZH rfl rfl) (Yn rfl) (Yn rfl)
   | exact Vk rfl (ZH rfl rfl) (Yn rfl) (ZX rfl (by first | assumption | rfl))
   | exact Vk rfl (ZH rfl rfl) (Yn rfl) (ZH rfl rfl)
   | exact Vk rfl (ZH rfl rfl) (ZX rfl (by first | assumption | rfl)) (Yn rfl)
   | exact Vk rfl (ZH rfl rfl) (ZX rfl (by first | assumption | rfl)) (ZX rfl (by first | assumption | rfl))
   | exact Vk rfl (ZH rfl rfl) (ZX rfl (by first | assumption | rfl)) (ZH rfl rfl)
   | exact Vk rfl (ZH rfl rfl) (ZH rfl rfl) (Yn rfl)
   | exact Vk rfl (ZH rfl rfl) (ZH rfl rfl) (ZX rfl (by first | assumption | rfl))
   | exact Vk rfl (ZH rfl rfl) (ZH rfl rfl) (ZH rfl rfl))
  (hle : ρ0.le ρ := by first | assumption | exact Hp.le_refl _ | (refine Hp.le_trans ?_ (by assumption); assumption) | solve_by_elim (maxDepth := 6) [Hp.le_trans]) (k : Xw L L' G := by exact tk) (en : Ends G R := by infer_instance) (he : isEnd e = true := by rfl) (hD : x.D = [] := by rfl) (hu : x.u = u := by rfl) :
  TE x e (bodyPostM (Fw none) 0 x.P fn (RK u ρ0 R Post)) E ρ L := te_end he hD hu hr hle k en hp
end
theorem bool_eq {a b : Bool} (h : a = true ↔ b = true) : Value.bool a = Value.bool b := congrArg _ (Bool.eq_iff_iff.2 h)
class SetN (l : List Value) (off n : Nat) (vs : List Value) (l' : outParam (List Value)) : Prop where
 len : vs.length = n
 fit : off + n ≤ l.length
 out : stc l off vs = l'
instance SetN.nil {l : List Value} : SetN l 0 0 [] l := ⟨rfl, by simp, by simp [stc]⟩
instance SetN.cons {a v : Value} {r vs r' : List Value} {n : Nat} [h : SetN r 0 n vs r'] : SetN (a :: r) 0 (n + 1) (v :: vs) (v :: r') := ⟨by
 have := h.len; simp [this], by have := h.fit; simp at this ⊢; omega, by
 have := h.out
 simp only [stc, List.take_zero, List.nil_append, Nat.zero_add, List.length_cons, List.drop_succ_cons, List.cons_append] at this ⊢
 rw [this]⟩
instance SetN.drop {a : Value} {r vs r' : List Value} {o n : Nat} [h : SetN r o n vs r'] : SetN (a :: r) (o + 1) n vs (a :: r') := ⟨h.len, by
 have := h.fit; simp only [List.length_cons]; omega, by
 have := h.out
 simp only [stc, List.take_succ_cons, List.cons_append] at this ⊢
 rw [show o + 1 + vs.length = (o + vs.length) + 1 by omega, List.drop_succ_cons, this]⟩
class GetQ (pl : List (Nat × Nat)) (i : Nat) (off n : outParam Nat) : Prop where
 out : pl[i]? = some (off, n)
instance GetQ.zero {off n : Nat} {r : List (Nat × Nat)} : GetQ ((off, n) :: r) 0 off n := ⟨rfl⟩
instance GetQ.succ {p : Nat × Nat} {r : List (Nat × Nat)} {i off n : Nat} [h : GetQ r i off n] : GetQ (p :: r) (i + 1) off n := ⟨by simpa using h.out⟩
class CellsL (v : Value) (l : outParam (List Value)) : Prop where
 out : v.cells = ⟨l⟩
instance {l : List Value} : CellsL (.agg ⟨l⟩) l := ⟨rfl⟩
instance {k : IntKind} {n : Int} : CellsL (.int k n) [.int k n] := ⟨rfl⟩
instance {b : Bool} : CellsL (.bool b) [.bool b] := ⟨rfl⟩
instance {s : ByteArray} : CellsL (.string s) [.string s] := ⟨rfl⟩
instance {a : Option Addr} : CellsL (.pointer a) [.pointer a] := ⟨rfl⟩
instance {a : Option Addr} {n c : Nat} : CellsL (.slice a n c) [.slice a n c] := ⟨rfl⟩
instance {m : Option Nat} : CellsL (.map m) [.map m] := ⟨rfl⟩
class BuildM (pl : List (Nat × Nat)) (cells : List Value) (ps : List (Nat × Operand)) (vs : List Value) (out : outParam (List Value)) : Prop where
 out : Instr.fill (pl[·]?) ⟨cells⟩ ((ps.map (·.1)).zip vs) = some ⟨out⟩
instance BuildM.nil {pl : List (Nat × Nat)} {cells : List Value} : BuildM pl cells [] [] cells := ⟨rfl⟩
instance BuildM.cons {pl : List (Nat × Nat)} {cells cells' out : List Value} {i off n : Nat} {o : Operand} {ps : List (Nat × Operand)} {v : Value} {l vs : List Value} [h1 : GetQ pl i off n] [h0 : CellsL v l] [h2 : SetN cells off n l cells'] [h3 : BuildM pl cells' ps vs out] : BuildM pl cells ((i, o) :: ps) (v :: vs) out := ⟨by
 simp only [List.map_cons, List.zip_cons_cons]
 rw [fill_cons (pl := (pl[·]?)) h1.out h0.out h2.len h2.fit, h2.out]
 exact h3.out⟩
theorem Zt {x : Cx} {E : Env} {ρ : Hp} {L : SH} {ty : TypeId} {t : Nat} {pl : List (Nat × Nat)} {z out : List Value} {ps : List (Nat × Operand)} {vs : List Value} [hP : ZF x.P t (pl[·]?)] [hz : Zr x.P t (.agg ⟨z⟩)] (hv : evs E (ps.map (·.2)) = some vs) [hB : BuildM pl z ps vs out] :
  Yl x (.build t ⟨ps⟩) ty E ρ L (.agg ⟨out⟩) := Vv hv hB.out
theorem bq2 {a b c d : Int} : ((a == b) = (c == d)) ↔ (a = b ↔ c = d) := by
 rw [Bool.eq_iff_iff, beq_iff_eq, beq_iff_eq]
theorem bqt {a b : Int} : (true = (a == b)) ↔ a = b := by
 rw [eq_comm, beq_iff_eq]
theorem bqf {a b : Int} : (false = (a == b)) ↔ ¬ a = b := by
 rw [eq_comm, beq_eq_false_iff_ne]
end Go.Proofs.E
namespace Go.Proofs.E
open Go Go.Lib
set_option linter.unusedVariables false
set_option linter.unusedSimpArgs false
set_option linter.unusedSectionVars false
section
variable {x : Cx} {Q : Exit → Act → World → Prop} {E : Env} {ρ : Hp} {L L1 : SH} {ops : Array Oper} {rest : List Oper} {ty : TypeId} {pos : String} {af : Array Edge}
theorem GetL.get {l : List Value} {d : Nat} {v : Value} (h : GetL l d v) : l[d]? = some v := h.out
theorem TE.perm {e : Exit} {L' : SH} (h : TE x e Q E ρ L') (hL : L.flatten.Perm L'.flatten) : TE x e Q E ρ L := fun a w ha hw => h a w ha (hw.perm hL)
theorem TE.sub {e : Exit} {L' : SH} (h : TE x e Q E ρ L') (hL : List.Sublist L'.flatten L.flatten) : TE x e Q E ρ L := fun a w ha hw => h a w ha (hw.sub hL)
theorem TC.sub {c : Code} {L' : SH} (h : TC x c Q E ρ L') (hL : List.Sublist L'.flatten L.flatten) : TC x c Q E ρ L := fun a w ha hw => h a w ha (hw.sub hL)
theorem TL.sub {l : List Oper} {L' : SH} (h : TL x ops l Q E ρ L') (hL : List.Sublist L'.flatten L.flatten) : TL x ops l Q E ρ L := fun a w ha hw => h a w ha (hw.sub hL)
end
theorem Hp.up {ρ ρ' : Hp} (h : ρ.le ρ') {b : Nat} {o : Obj} (hb : ρ b = some o) : ρ' b = some o := h _ _ hb
section
variable {x : Cx} {Q : Exit → Act → World → Prop} {E : Env} {ρ : Hp} {L : SH} {ops : Array Oper} {rest : List Oper} {ty : TypeId} {pos : String} {af : Array Edge}
end
theorem Spec.freeze {P : Program} {f : FuncId} {args : List Value} {ρ : Hp} {L : SH} {Post : Value → Hp → SH → Prop} {Post2 : Value → Hp → Prop} (h : Spec P f args ρ L Post)
  (k : ∀ v ρ' L', ρ.le ρ' → Post v ρ' L' → ∀ ρ2, ρ'.le ρ2 → (∀ p ∈ L'.flatten, ρ2 p.1 = some p.2) → Post2 v ρ2) : Spec P f args ρ L (fun v ρ2 L2 => Post2 v ρ2 ∧ L2 = []) := fun u R w hw => by
 refine (h u R w hw).mono ?_
 rintro e w' ⟨v, ρ', L', h2, h3, h4, h5⟩
 have h6 : Sat u ρ' (L'.flatten :: R) w' := h4.perm (by simp)
 obtain ⟨h7, hle, hf⟩ := h6.freeze
 exact ⟨v, _, [], h2, Hp.le_trans h3 hle, h7, k v ρ' L' h3 h5 _ hle hf, rfl⟩
section
variable {x : Cx} {Q : Exit → Act → World → Prop} {E : Env} {ρ : Hp} {L L1 L2 : SH} {ops : Array Oper} {l : List Oper} {c d : List (Nat × Obj)} {e : Exit} {y : Code}
end
instance (priority := 1100) eqC_four {P : Program} {m t e : Nat} {k : IntKind} [hA : WZ P t 4 e] [hE : YW P e k] [hS : TyS P e] {a b c d a' b' c' d' : Int} :
  EqC P (m + 2) t (.agg ⟨[.int k a, .int k b, .int k c, .int k d]⟩) (.agg ⟨[.int k a', .int k b', .int k c', .int k d']⟩) (decide (a = a' ∧ b = b' ∧ c = c' ∧ d = d')) := ⟨fun dd w hdd => by
 obtain ⟨dd, rfl⟩ : ∃ d', dd = d' + 2 := ⟨dd - 2, by omega⟩
 obtain ⟨ds, i, g1, g2, g3, g4⟩ := hS.out
 have hag : ∀ w, (isAgg e).run P w = .ok false w := fun w => by
  simp only [isAgg, underlying, Sem.run_bind, run_program, Result.andThen_ok, g1, Sem.run_pure]
  cases ds <;> simp_all
 have hcl : P.cellsOf e = 1 := by simp [Program.cellsOf, g3, g4]
 have hp : ∀ (x : Array Value) (j : Nat) (v : Value) (w : World), x[j]? = some v → (part e x j).run P w = .ok v w := fun x j v w h => by
  simp [part, hag, h]
 have hr := fun (x y : Int) (w : World) => run_equalIn_int (P := P) w dd e k k x y hE.out
 rw [run_equalIn_array w (dd + 1) _ _ hA.out g3, show List.range 4 = [0, 1, 2, 3] from rfl]
 have q0 := fun w => hp ⟨[.int k a, .int k b, .int k c, .int k d]⟩ 0 (.int k a) w rfl
 have q1 := fun w => hp ⟨[.int k a, .int k b, .int k c, .int k d]⟩ 1 (.int k b) w rfl
 have q2 := fun w => hp ⟨[.int k a, .int k b, .int k c, .int k d]⟩ 2 (.int k c) w rfl
 have q3 := fun w => hp ⟨[.int k a, .int k b, .int k c, .int k d]⟩ 3 (.int k d) w rfl
 have p0 := fun w => hp ⟨[.int k a', .int k b', .int k c', .int k d']⟩ 0 (.int k a') w rfl
 have p1 := fun w => hp ⟨[.int k a', .int k b', .int k c', .int k d']⟩ 1 (.int k b') w rfl
 have p2 := fun w => hp ⟨[.int k a', .int k b', .int k c', .int k d']⟩ 2 (.int k c') w rfl
 have p3 := fun w => hp ⟨[.int k a', .int k b', .int k c', .int k d']⟩ 3 (.int k d') w rfl
 simp only [Op.eqItems, Sem.run_bind, hcl, Nat.mul_one, q0, p0, q1, p1, q2, p2, q3, p3, Result.andThen_ok, hr]
 cases h0 : (a == a') <;> cases h1 : (b == b') <;> cases h2 : (c == c') <;> cases h3 : (d == d') <;> simp only [h0, h1, h2, h3, Bool.not_true, Bool.not_false, if_true, if_false, Bool.false_eq_true, Sem.run_bind, Sem.run_pure, q1, p1, q2, p2, q3, p3, hr, Result.andThen_ok, Op.eqItems]
 all_goals (congr 1; simp only [beq_iff_eq, beq_eq_false_iff_ne] at h0 h1 h2 h3; simp [h0, h1, h2, h3])⟩
end Go.Proofs.E
namespace Go.Proofs.E
open Go
set_option linter.unusedVariables false
set_option linter.unusedSimpArgs false
def UKeys (es : List MapEntry) : Prop := es.Pairwise (fun a b => a.key ≠ b.key)
theorem mget_none {es : List MapEntry} {k : Int} : YG es k = none ↔ ∀ e ∈ es, ∀ kk, e.key ≠ .int kk k := by
 unfold YG
 rw [Option.map_eq_none_iff, List.find?_eq_none]
 constructor
 ·intro h e he kk hk
  have := h e he
  rw [hk] at this
  simp at this
 ·intro h e he hc
  cases hk : e.key <;> rw [hk] at hc <;> simp at hc
  subst hc
  exact h e he _ hk
theorem UKeys.add {es : List MapEntry} {x : MapEntry} (h : UKeys es) (hx : ∀ e ∈ es, ¬ e.key = x.key) : UKeys (es ++ [x]) := by
 unfold UKeys
 rw [List.pairwise_append]
 exact ⟨h, List.pairwise_singleton _ _, fun a ha b hb => by rw [List.mem_singleton.1 hb]; exact hx a ha⟩
theorem UKeys.mod {kk : IntKind} {k : Int} {v : Value} {pre post : List MapEntry} {e : MapEntry} (h : UKeys (pre ++ e :: post)) (hk : e.key = .int kk k) : UKeys (pre ++ { e with key := .int kk k, val := v } :: post) := by
 unfold UKeys at h ⊢
 rw [List.pairwise_append, List.pairwise_cons] at h ⊢
 obtain ⟨h1, ⟨h2, h3⟩, h4⟩ := h
 refine ⟨h1, ⟨fun b hb => by rw [← hk]; exact h2 b hb, h3⟩, fun a ha b hb => ?_⟩
 rcases List.mem_cons.1 hb with rfl | hb
 ·show a.key ≠ .int kk k
  rw [← hk]; exact h4 a ha e (by simp)
 ·exact h4 a ha b (by simp [hb])
theorem UKeys.del {pre post : List MapEntry} {e : MapEntry} (h : UKeys (pre ++ e :: post)) : UKeys (pre ++ post) ∧ ∀ x ∈ post, x.key ≠ e.key := by
 unfold UKeys at h ⊢
 rw [List.pairwise_append, List.pairwise_cons] at h
 obtain ⟨h1, ⟨h2, h3⟩, h4⟩ := h
 exact ⟨List.pairwise_append.2 ⟨h1, h3, fun a ha b hb => h4 a ha b (by simp [hb])⟩, fun x hx hc => h2 x hx hc.symm⟩
section
variable {x : Cx} {Q : Exit → Act → World → Prop} {E : Env} {ρ ρ0 : Hp} {L : SH} {ops : Array Oper} {rest : List Oper} {ty : TypeId} {pos : String} {af : Array Edge}
theorem run_mapUpdate_u {P : Program} {t kt e : TypeId} {kk : IntKind} (hM : Va P t kt e) (hK : YW P kt kk) {w : World} {b : Nat} {es : List MapEntry} {ck : Nat}
  (hb : w.heap[b]? = some (.map ⟨es⟩ ck)) (hes : Ym kk es) (hu : UKeys es) (k : Int) (v : Value) :
  ∃ es' ck', (Instr.mapUpdate t (.map (some b)) (.int kk k) v).run P w = .ok () (Vj w b (.map ⟨es'⟩ ck')) ∧ Ym kk es' ∧ UKeys es' ∧ ∀ j, YG es' j = if j = k then some v else YG es j := by
 have hck := fun e => WF hK e k w
 have hfk : (Instr.findKey kt (.int kk k) es).run P w = .ok ((Instr.findNow (.int kk) (.int kk k) es 0).getD none) w ∧ True := by
  refine ⟨?_, trivial⟩
  simp only [Instr.findKey, Sem.run_bind, underlying, run_program, Result.andThen_ok, hK.out, Sem.run_pure]
  rcases XP (k := k) es 0 hes with ⟨h1, h2⟩ | ⟨pre, e', post, h0, h1, h2, h3, h4⟩
  ·simp [h2]
  ·simp [h4]
 rcases XP (k := k) es 0 hes with ⟨h1, h2⟩ | ⟨pre, e', post, rfl, h1, h2, h3, h4⟩
 ·rw [h2] at hfk
  refine ⟨es ++ [{ key := .int kk k, val := v, born := ck }], ck + 1, ?_, ?_, hu.add (fun e he hk => ?_), ?_⟩
  rotate_left 2
  ·exact (mget_none.1 h1) e he kk hk
  rotate_right 2
  ·simp [Instr.mapUpdate, underlying, hM.out, MapKept.run_getObj_map hb, hck, hfk.1, MapKept.run_setObj_map _ hb, Vj]
  ·intro e he
   rcases List.mem_append.1 he with he | he
   ·exact hes e he
   ·simp only [List.mem_singleton] at he; subst he; exact ⟨k, rfl⟩
  ·intro j
   rw [Wg]
   by_cases hj : j = k
   ·subst hj; rw [h1]; simp [YG]
   ·rw [if_neg hj]
    have : YG [({ key := .int kk k, val := v, born := ck } : MapEntry)] j = none := by
     have : (k == j) = false := by simpa using fun e : k = j => hj e.symm
     simp [YG, this]
    rw [this]; simp
 ·rw [h4] at hfk
  have hstay : (Instr.keyThatStays (.int kk k) (.int kk k)).run P w = .ok (.int kk k) w := by
   have : Instr.sameBits 10000 (.int kk k) (.int kk k) = true := by simp [Instr.sameBits]
   simp [Instr.keyThatStays, this]
  refine ⟨pre ++ { e' with key := .int kk k, val := v } :: post, ck, ?_, ?_, UKeys.mod hu h1, ?_⟩
  ·have hmod : (Array.mk (pre ++ e' :: post)).modify pre.length (fun e => { e with key := .int kk k, val := v }) = ⟨pre ++ { e' with key := .int kk k, val := v } :: post⟩ := by
    apply Array.ext_getElem?
    intro i
    rw [Array.getElem?_modify]
    simp only [List.getElem?_toArray]
    rcases Nat.lt_trichotomy i pre.length with hi | hi | hi
    ·rw [if_neg (by omega), List.getElem?_append_left hi, List.getElem?_append_left hi]
    ·subst hi; simp
    ·rw [if_neg (by omega), List.getElem?_append_right (by omega), List.getElem?_append_right (by omega)]
     have : i - pre.length = (i - pre.length - 1) + 1 := by omega
     rw [this]; simp
   have hmod' := congrArg Array.toList hmod
   simp only [Array.toList_modify] at hmod'
   simp [Instr.mapUpdate, underlying, hM.out, MapKept.run_getObj_map hb, hck, hfk.1, MapKept.run_setObj_map _ hb, Vj, h1, hstay, hmod']
  ·intro e he
   rcases List.mem_append.1 he with he | he
   ·exact hes e (by simp [he])
   ·rcases List.mem_cons.1 he with rfl | he
    ·exact ⟨k, rfl⟩
    ·exact hes e (by simp [he])
  ·intro j
   rw [Wg, Wg]
   by_cases hj : j = k
   ·subst hj; rw [h2]; simp [YG]
   ·rw [if_neg hj]
    have hkj : (k == j) = false := by simpa using fun e : k = j => hj e.symm
    congr 1
    simp [YG, List.find?_cons, h1, hkj]
theorem WO {m i p : Operand} {t kt e b : Nat} {kk : IntKind} {es : List MapEntry} {ck : Nat} {k : Int} {v : Value} {f : Obj → SH} (hm : ev E m = some (.map (some b))) (hi : ev E i = some (.int kk k)) (hp : ev E p = some v)
  [hM : Va x.P t kt e] [hK : YW x.P kt kk] [hU : Upd b L (.map ⟨es⟩ ck) f] (hes : Ym kk es) (hu : UKeys es)
  (kk' : ∀ es' ck', Ym kk es' → UKeys es' → (∀ j, YG es' j = if j = k then some v else YG es j) → TL x ops rest Q E ρ (f (.map ⟨es'⟩ ck'))) :
  TL x ops (⟨none, .mapUpdate t m i p, ty, pos, af, none⟩ :: rest) Q E ρ L := fun a w ha hw => by
 refine Yk rfl rfl ?_
 obtain ⟨es', ck', hrun, h1, h2, h3⟩ := run_mapUpdate_u hM hK (hw.upd hU (.map ⟨es⟩ ck)).2 hes hu k v
 have hs := (hw.upd hU (.map ⟨es'⟩ ck')).1
 have : (execOp a.eval ⟨none, .mapUpdate t m i p, ty, pos, af, none⟩).run x.P w = .ok .skip (Vj w b (.map ⟨es'⟩ ck')) := by
  simp only [execOp, ha.eval hm, ha.eval hi, ha.eval hp, Sem.run_bind, hrun, Result.andThen_ok, Sem.run_pure]
 rw [this]
 exact kk' es' ck' h1 h2 h3 _ _ (ha.put_none undef) hs
theorem run_delete_u {P : Program} {t kt e ty : TypeId} {kk : IntKind} (hM : Va P t kt e) (hK : YW P kt kk) {w : World} {b : Nat} {es : List MapEntry} {ck : Nat}
  (hb : w.heap[b]? = some (.map ⟨es⟩ ck)) (hes : Ym kk es) (hu : UKeys es) (k : Int) :
  ∃ es', (Builtin.delete_ #[t, kt] ty #[.map (some b), .int kk k]).run P w = .ok (.tuple #[]) (Vj w b (.map ⟨es'⟩ ck)) ∧ Ym kk es' ∧ UKeys es' ∧ ∀ j, YG es' j = if j = k then none else YG es j := by
 have hck := fun e => WF hK e k w
 have hfk : (Instr.findKey kt (.int kk k) es).run P w = .ok ((Instr.findNow (.int kk) (.int kk k) es 0).getD none) w ∧ True := by
  refine ⟨?_, trivial⟩
  simp only [Instr.findKey, Sem.run_bind, underlying, run_program, Result.andThen_ok, hK.out, Sem.run_pure]
  rcases XP (k := k) es 0 hes with ⟨h1, h2⟩ | ⟨pre, e', post, h0, h1, h2, h3, h4⟩
  ·simp [h2]
  ·simp [h4]
 rcases XP (k := k) es 0 hes with ⟨h1, h2⟩ | ⟨pre, e', post, rfl, h1, h2, h3, h4⟩
 ·rw [h2] at hfk
  refine ⟨es, ?_, hes, hu, fun j => ?_⟩
  ·simp [Builtin.delete_, underlying, hM.out, MapKept.run_getObj_map hb, hck, hfk.1, MapKept.run_setObj_map _ hb, Vj]
  ·split
   ·subst j; exact h1
   ·rfl
 ·rw [h4] at hfk
  obtain ⟨hu1, hu2⟩ := hu.del
  refine ⟨pre ++ post, ?_, fun e he => hes e (by rcases List.mem_append.1 he with he | he <;> simp [he]), hu1, fun j => ?_⟩
  ·have her : (pre ++ e' :: post).eraseIdx pre.length = pre ++ post := by simp [List.eraseIdx_append_of_length_le]
   simp [Builtin.delete_, underlying, hM.out, MapKept.run_getObj_map hb, hck, hfk.1, her, MapKept.run_setObj_map _ hb, Vj]
  ·rw [Wg]
   by_cases hj : j = k
   ·subst hj
    rw [if_pos rfl, h2, mget_none.2 (fun x hx kk' hk' => ?_)]
    ·rfl
    ·obtain ⟨a, ha⟩ := hes x (by simp [hx])
     refine hu2 x hx ?_
     rw [h1, ha]
     rw [ha] at hk'
     simp only [Value.int.injEq] at hk' ⊢
     exact ⟨trivial, hk'.2⟩
   ·rw [if_neg hj, Wg]
    congr 1
    have hkj : (k == j) = false := by simpa using fun e : k = j => hj e.symm
    simp [YG, List.find?_cons, h1, hkj]
theorem tl_delete {m i : Operand} {t kt e b : Nat} {kk : IntKind} {es : List MapEntry} {ck : Nat} {k : Int} {f : Obj → SH} (hm : ev E m = some (.map (some b))) (hi : ev E i = some (.int kk k))
  [hM : Va x.P t kt e] [hK : YW x.P kt kk] [hU : Upd b L (.map ⟨es⟩ ck) f] (hes : Ym kk es) (hu : UKeys es)
  (kk' : ∀ es', Ym kk es' → UKeys es' → (∀ j, YG es' j = if j = k then none else YG es j) → TL x ops rest Q E ρ (f (.map ⟨es'⟩ ck))) :
  TL x ops (⟨none, .call { callee := .builtin .delete, args := #[m, i], argTypes := #[t, kt] }, ty, pos, af, none⟩ :: rest) Q E ρ L := fun a w ha hw => by
 refine Yk rfl rfl ?_
 obtain ⟨es', hrun, h1, h2, h3⟩ := run_delete_u (ty := ty) hM hK (hw.upd hU (.map ⟨es⟩ ck)).2 hes hu k
 have hs := (hw.upd hU (.map ⟨es'⟩ ck)).1
 have : (execOp a.eval ⟨none, .call { callee := .builtin .delete, args := #[m, i], argTypes := #[t, kt] }, ty, pos, af, none⟩).run x.P w = .ok (.value (.tuple #[])) (Vj w b (.map ⟨es'⟩ ck)) := by
  have hargs : Array.map a.eval #[m, i] = #[.map (some b), .int kk k] := by simp [ha.eval hm, ha.eval hi]
  simp only [execOp, resolve, Sem.run_bind, Sem.run_pure, Result.andThen_ok, invoke, builtin, hargs, hrun]
 rw [this]
 exact kk' es' h1 h2 h3 _ _ (ha.put_none _) hs
end
def IterP (P : Program) (g : FuncId) (fs cs : List Value) {α : Type} (enc : α → List Value) (ρ0 : Hp) (S : SH) (C : List (Nat × Obj)) (xs : List α) : Prop :=
 ∀ (l : Nat) (J : List α → Hp → SH → Prop) (Jx : Hp → SH → Prop), (∀ ρ Lj, J [] ρ Lj → ∃ A B, Lj = A ++ C :: B) →
  (∀ pre y ρ Lj, (pre ++ [y]) <+: xs → ρ0.le ρ → J pre ρ Lj → XZ P l (enc y) ρ (S ++ Lj) (YP S (J (pre ++ [y])) Jx)) →
  ∀ ρ Lj, ρ0.le ρ → J [] ρ Lj → Spec P g (fs ++ [.func (.yield l) ⟨[]⟩ ⟨[]⟩] ++ cs) ρ (S ++ Lj) (fun v ρ' L' => ∃ Lj', L' = S ++ Lj' ∧ (J xs ρ' Lj' ∨ Jx ρ' Lj'))
section
variable {x : Cx} {Q : Exit → Act → World → Prop} {E : Env} {ρ ρ0 : Hp} {L : SH} {l : Nat} {r : Loop}
theorem tc_rangeFuncP {fo : Operand} {ps : List Nat} {assign body : Code} {g : Nat} {fs cs : List Value} {α : Type} {enc : α → List Value} {S L0 R0 R : SH} {xs : List α} {C : List (Nat × Obj)} (hro : x.ro = none)
  (hf : ev E fo = some (.func (.func g) ⟨fs⟩ ⟨cs⟩)) [hF : Yc x.P g] (hI : IterP x.P g fs cs enc ρ0 S C xs) (hle : ρ0.le ρ) (hps : ∀ y, (enc y).length = ps.length) (hpN : ps.all (fun p => Nat.blt p x.N) = true)
  (J : List α → Hp → SH → Prop) (Jx : Code → Hp → SH → Prop) (k1 : Xw L S R0) (k2 : Xw R0 L0 R) (h0 : J [] ρ L0) (hC : ∀ ρ Lu, J [] ρ Lu → ∃ A B, Lu = A ++ C :: B)
  (hround : ∀ l tm r pre y ρ' Lu u R', (pre ++ [y]) <+: xs → ρ0.le ρ' → J pre ρ' Lu → r.state = .ready → Rec tm ⟨ps⟩ assign body r →
   TC ⟨some l, x.P, u, [], x.N⟩ assign (Exit.then (KB x.P l body (RQ x.P u ρ' R' l (YP S (JH l (Rec tm ⟨ps⟩ assign body) (J (pre ++ [y]))) (XH l (Rec tm ⟨ps⟩ assign body) Jx)))) QF)
    (envP ps (enc y) E) ρ' ([(l, .loop r)] :: (S ++ (Lu ++ R'))))
  (hdone : ∀ D0 ρ' Lu, ρ.le ρ' → J xs ρ' Lu → TE { x with D := [{ target := .collected D0, args := #[] }] ++ x.D } .normal Q E ρ' ([(D0, .deferred (some []))] :: (S ++ (Lu ++ R))))
  (hstop : ∀ D0 c ρ' Lu, ρ.le ρ' → Jx c ρ' Lu → TC { x with D := [{ target := .collected D0, args := #[] }] ++ x.D } c Q E ρ' ([(D0, .deferred (some []))] :: (S ++ (Lu ++ R)))) :
  TC x (.rangeFunc fo ⟨ps⟩ assign body) Q E ρ L := fun a w ha hw => by
 obtain ⟨ro, P, u, D, N⟩ := x
 simp only at hro; subst hro
 dsimp only at *
 refine wpIn_rangeFunc fun fn _ => ?_
 have hw0 : Sat u ρ (S ++ (L0 ++ R)) w := hw.perm (by
  refine k1.out.trans ?_
  simp only [List.flatten_append]
  exact List.Perm.append_left _ (by simpa using k2.out))
 have hw1 := hw0.new (.deferred (some []))
 generalize hr0 : ({ state := .ready, pending := none, fn, tmps := a.tmps, params := ⟨ps⟩, assign, body, defers := w.heap.size } : Loop) = r0
 have hw2 := hw1.new (.loop r0)
 have hsz : ({ w with heap := w.heap.push (.deferred (some [])) } : World).heap.size = w.heap.size + 1 := by simp
 rw [hsz] at hw2
 have hrec0 : Rec a.tmps ⟨ps⟩ assign body r0 := by subst hr0; exact ⟨rfl, rfl, rfl, rfl⟩
 have hst0 : r0.state = .ready ∧ r0.pending = none := by subst hr0; exact ⟨rfl, rfl⟩
 have henter := run_enterLoop_outer (P := P) (w := w) fn a.tmps ⟨ps⟩ assign body
 rw [hr0] at henter
 have hres : (resolve a.eval (rangeCall fo (w.heap.size + 1)) 0).run P ((w.alloc (.deferred (some []))).alloc (.loop r0)) =
   .ok { target := .fn (.func g) ⟨cs⟩, args := ⟨fs ++ [.func (.yield (w.heap.size + 1)) ⟨[]⟩ ⟨[]⟩]⟩ } ((w.alloc (.deferred (some []))).alloc (.loop r0)) := by
  simp only [resolve, ha.eval hf, Deferred.ofValue, Sem.run_pure]
  simp [Act.eval]
 refine ⟨w.heap.size + 1, _, _, _, _, g, ⟨fs ++ [.func (.yield (w.heap.size + 1)) ⟨[]⟩ ⟨[]⟩] ++ cs⟩, (w.alloc (.deferred (some []))).alloc (.loop r0), henter, hres, fun _ _ => trivial, ?_, fun h => by simp [Fw, Fence.wide] at h, ?_⟩
 ·simp only [invoke]
  have := run_callFunc hF (⟨fs ++ [.func (.yield (w.heap.size + 1)) ⟨[]⟩ ⟨[]⟩]⟩ ++ ⟨cs⟩) ((w.alloc (.deferred (some []))).alloc (.loop r0))
  simpa using this
 generalize hl : w.heap.size + 1 = l at *
 generalize hD0 : w.heap.size = D0 at *
 have hy : ∀ pre y ρ' Lj, (pre ++ [y]) <+: xs → ρ0.le ρ' → JH l (Rec a.tmps ⟨ps⟩ assign body) (J pre) ρ' Lj → XZ P l (enc y) ρ' (S ++ Lj) (YP S (JH l (Rec a.tmps ⟨ps⟩ assign body) (J (pre ++ [y]))) (XH l (Rec a.tmps ⟨ps⟩ assign body) Jx)) := by
  intro pre y ρ' Lj hpre hle' hJ
  obtain ⟨r, Lu, rfl, hrs, hrp, hrr, hJu⟩ := hJ
  intro u' R' w' hw'
  have hlr := hw'.here (l, .loop r) (by simp)
  have hargs : (⟨enc y⟩ : Array Value).size = r.params.size := by rw [hrr.params]; simpa using hps y
  refine ⟨_, _, _, _, run_yield hlr hargs, ?_⟩
  have hround' := hround l a.tmps r pre y ρ' Lu u' R' hpre hle' hJu hrs hrr
  have hsat : Sat u' ρ' ([(l, .loop r)] :: (S ++ (Lu ++ R'))) w' := hw'.perm (by simp)
  have hok : Ok [] N (envP ps (enc y) E) { tmps := (r.params.zip ⟨enc y⟩).foldl (fun tmps (t, a) => tmps.setIfInBounds t a) r.tmps, defers := [] } := by
   have h1 : Ok [] N E { tmps := a.tmps, defers := [] } := ⟨rfl, ha.size, ha.get⟩
   have := Ok.putP ps (enc y) E a.tmps hpN h1
   rw [hrr.params, hrr.tmps]
   have e : ((⟨ps⟩ : Array Nat).zip ⟨enc y⟩) = ⟨ps.zip (enc y)⟩ := by simp
   rw [e]
   simpa using this
  have hwp := hround' _ w' hok hsat
  rw [hrr.assign, hrr.body]
  refine roundIn_of_wpIn (F := Fw none) (n := 0) trivial ?_
  exact hwp
 have hspec := hI l (fun pre => JH l (Rec a.tmps ⟨ps⟩ assign body) (J pre)) (XH l (Rec a.tmps ⟨ps⟩ assign body) Jx) (fun ρ Lj ⟨r, Lu, e1, _, _, _, e5⟩ => by
  obtain ⟨A, B, rfl⟩ := hC _ _ e5
  exact ⟨[(l, .loop r)] :: A, B, by rw [e1]; rfl⟩) hy ρ ([(l, .loop r0)] :: L0) hle ⟨r0, L0, rfl, hst0.1, hst0.2, hrec0, h0⟩
 have hcall := hspec u ([(D0, .deferred (some []))] :: R) ((w.alloc (.deferred (some []))).alloc (.loop r0)) (hw2.perm (by
  simp only [List.flatten_cons, List.flatten_append, List.append_assoc, List.cons_append, List.singleton_append, List.nil_append]
  refine List.Perm.trans (l₂ := S.flatten ++ ((l, .loop r0) :: (D0, .deferred (some [])) :: (L0.flatten ++ R.flatten))) ?_ ?_
  ·refine List.Perm.trans ?_ List.perm_middle.symm
   refine List.Perm.cons _ ?_
   exact List.perm_middle.symm
  ·refine List.Perm.append_left _ (List.Perm.cons _ ?_)
   exact List.perm_middle.symm))
 refine calls_ro (CallsIn.mono hcall ?_)
 rintro e w3 ⟨v, ρ', L', rfl, hle', hsat, Lj', rfl, hor⟩
 have perm4 : ∀ (c : List (Nat × Obj)) (Lu : SH), (S ++ (c :: Lu) ++ ([(D0, .deferred (some []))] :: R)).flatten.Perm (c :: ([(D0, .deferred (some []))] :: (S ++ (Lu ++ R)))).flatten := fun c Lu => by
  simp only [List.flatten_cons, List.flatten_append, List.append_assoc, List.cons_append, List.singleton_append, List.nil_append]
  refine List.Perm.trans ?_ (List.Perm.append_left c (List.perm_middle (l₁ := S.flatten ++ Lu.flatten) (a := (D0, .deferred (some []))) (l₂ := R.flatten) |>.trans (by simp)))
  rw [← List.append_assoc, ← List.append_assoc c]
  refine List.Perm.trans (List.Perm.append_right _ List.perm_append_comm) ?_
  simp only [List.append_assoc]
  exact List.Perm.refl _
 rcases hor with ⟨r, Lu, rfl, hrs, hrp, hrr, hJu⟩ | ⟨r, Lu, c, rfl, hrs, hrp, hrr, hJu⟩
 ·have hs1 := hsat.perm (perm4 [(l, .loop r)] Lu)
  have hlr := hs1.here (l, .loop r) (by simp)
  refine ⟨r.pending, _, run_endLoop hlr (by rw [hrs]; simp), ?_⟩
  rw [hrp]
  have hs2 := (hs1.put (.loop { r with state := .exhausted, pending := none })).sub (L' := [(D0, .deferred (some []))] :: (S ++ (Lu ++ R))) (by simp)
  exact hdone D0 ρ' Lu hle' hJu _ _ ⟨by simp [ha.defers], ha.size, ha.get⟩ hs2
 ·have hs1 := hsat.perm (perm4 [(l, .loop r)] Lu)
  have hlr := hs1.here (l, .loop r) (by simp)
  refine ⟨r.pending, _, run_endLoop hlr (by rw [hrs]; simp), ?_⟩
  rw [hrp]
  have hs2 := (hs1.put (.loop { r with state := .exhausted, pending := some c })).sub (L' := [(D0, .deferred (some []))] :: (S ++ (Lu ++ R))) (by simp)
  exact hstop D0 c ρ' Lu hle' hJu _ _ ⟨by simp [ha.defers], ha.size, ha.get⟩ hs2
end
end Go.Proofs.E
namespace Go.Proofs.E
open Go Go.Proofs.E
set_option linter.unusedVariables false
theorem tqI {t : TypeId} {b : Bool} (h : (Tryz.prog.underlying t).map isIfaceD = some b := by kernel_rfl) : Zo Tryz.prog t b := mkTyIface h
theorem tqS {t : TypeId} (h : (Tryz.prog.underlying t).map isAggD = some false := by kernel_rfl) (k : (Tryz.prog.info? t).map (·.size) = some 1 := by kernel_rfl) : TyS Tryz.prog t := mkTyS h k
theorem tqA {t : TypeId} {n : Nat} (h : (Tryz.prog.underlying t).map isAggD = some true := by kernel_rfl) (k : (Tryz.prog.info? t).map (·.size) = some n := by kernel_rfl) : TyA Tryz.prog t n := mkTyA h k
theorem tqN {t : TypeId} {n : Nat} (k : (Tryz.prog.info? t).map (·.size) = some n := by kernel_rfl) : ZG Tryz.prog t n := mkTySz k
theorem tqB {t : TypeId} {n : Nat} (k : (Tryz.prog.info? t).map (·.bytes) = some n := by kernel_rfl) : Zn Tryz.prog t n := mkTyBytes k
theorem tqO {t : TypeId} {z : Value} (k : (Tryz.prog.info? t).bind (·.zero) = some z := by kernel_rfl) : Zr Tryz.prog t z := mkTyZero k
theorem tqF {t : TypeId} (h : (Tryz.prog.underlying t).map isFuncD = some true := by kernel_rfl) : Yv Tryz.prog t := mkTyFunc h
theorem Ye {s : TypeId} {f off : Nat} {ft : TypeId} (h : fldB Tryz.prog s f = some (off, ft) := by kernel_rfl) : Yb Tryz.prog s f off ft := mkFld h
theorem Yo {f : FuncId} (h : funB Tryz.prog f = true := by kernel_rfl) : Yc Tryz.prog f := mkFun h
instance : TyS Tryz.prog 1 := tqS
instance : Zo Tryz.prog 1 false := tqI
instance : Yv Tryz.prog 1 := tqF
instance : ZG Tryz.prog 1 1 := tqN
instance : Zn Tryz.prog 1 8 := tqB
instance : Zr Tryz.prog 1 (.nilFunc) := tqO
instance : TyS Tryz.prog 2 := tqS
instance : Zo Tryz.prog 2 false := tqI
instance : ZG Tryz.prog 2 1 := tqN
instance : Zn Tryz.prog 2 8 := tqB
instance : Zr Tryz.prog 2 (.int .i64 0) := tqO
instance : YW Tryz.prog 2 .i64 := ⟨by kernel_rfl⟩
instance : TyS Tryz.prog 3 := tqS
instance : Zo Tryz.prog 3 false := tqI
instance : ZG Tryz.prog 3 1 := tqN
instance : Zn Tryz.prog 3 8 := tqB
instance : Zr Tryz.prog 3 (.int .i64 0) := tqO
instance : YW Tryz.prog 3 .i64 := ⟨by kernel_rfl⟩
instance : TyS Tryz.prog 4 := tqS
instance : Zo Tryz.prog 4 false := tqI
instance : ZG Tryz.prog 4 1 := tqN
instance : Zn Tryz.prog 4 1 := tqB
instance : Zr Tryz.prog 4 (.bool false) := tqO
instance : TyBool Tryz.prog 4 := ⟨by kernel_rfl⟩
instance : TyS Tryz.prog 5 := tqS
instance : Zo Tryz.prog 5 false := tqI
instance : ZG Tryz.prog 5 1 := tqN
instance : Zn Tryz.prog 5 1 := tqB
instance : Zr Tryz.prog 5 (.int .u8 0) := tqO
instance : YW Tryz.prog 5 .u8 := ⟨by kernel_rfl⟩
instance : TyA Tryz.prog 7 4 := tqA
instance : Zo Tryz.prog 7 false := tqI
instance : ZG Tryz.prog 7 4 := tqN
instance : Zn Tryz.prog 7 24 := tqB
instance : Zr Tryz.prog 7 (.agg ⟨[.int .i64 0, .int .i64 0, .bool false, .int .u8 0]⟩) := tqO
instance : ZJ Tryz.prog 7 := ⟨by kernel_rfl⟩
instance : Yb Tryz.prog 7 0 0 2 := Ye
instance : Yb Tryz.prog 7 1 1 3 := Ye
instance : Yb Tryz.prog 7 2 2 4 := Ye
instance : Yb Tryz.prog 7 3 3 6 := Ye
instance : ZF Tryz.prog 7 (([(0, 1), (1, 1), (2, 1), (3, 1)] : List (Nat × Nat))[·]?) := ZB (by kernel_rfl)
instance : TyS Tryz.prog 9 := tqS
instance : Zo Tryz.prog 9 false := tqI
instance : ZG Tryz.prog 9 1 := tqN
instance : Zn Tryz.prog 9 16 := tqB
instance : Zr Tryz.prog 9 (.string ⟨⟨[]⟩⟩) := tqO
instance : TyStr Tryz.prog 9 := ⟨by kernel_rfl⟩
instance : TyS Tryz.prog 12 := tqS
instance : Zo Tryz.prog 12 false := tqI
instance : ZG Tryz.prog 12 1 := tqN
instance : Zn Tryz.prog 12 8 := tqB
instance : Zr Tryz.prog 12 (.int .u64 0) := tqO
instance : YW Tryz.prog 12 .u64 := ⟨by kernel_rfl⟩
instance : TyS Tryz.prog 16 := tqS
instance : Zo Tryz.prog 16 false := tqI
instance : ZG Tryz.prog 16 1 := tqN
instance : Zn Tryz.prog 16 8 := tqB
instance : Zr Tryz.prog 16 (.pointer none) := tqO
instance : TyPtr Tryz.prog 16 351 := ⟨by kernel_rfl⟩
instance : TyS Tryz.prog 17 := tqS
instance : Zo Tryz.prog 17 false := tqI
instance : ZG Tryz.prog 17 1 := tqN
instance : Zn Tryz.prog 17 8 := tqB
instance : Zr Tryz.prog 17 (.pointer none) := tqO
instance : TyPtr Tryz.prog 17 359 := ⟨by kernel_rfl⟩
instance : TyS Tryz.prog 20 := tqS
instance : Zo Tryz.prog 20 true := tqI
instance : ZG Tryz.prog 20 1 := tqN
instance : Zn Tryz.prog 20 16 := tqB
instance : Zr Tryz.prog 20 (.nilIface) := tqO
instance : TyS Tryz.prog 21 := tqS
instance : Zo Tryz.prog 21 false := tqI
instance : ZG Tryz.prog 21 1 := tqN
instance : Zn Tryz.prog 21 4 := tqB
instance : Zr Tryz.prog 21 (.int .i32 0) := tqO
instance : YW Tryz.prog 21 .i32 := ⟨by kernel_rfl⟩
instance : TyS Tryz.prog 22 := tqS
instance : Zo Tryz.prog 22 false := tqI
instance : ZG Tryz.prog 22 1 := tqN
instance : Zn Tryz.prog 22 8 := tqB
instance : Zr Tryz.prog 22 (.int .u64 0) := tqO
instance : YW Tryz.prog 22 .u64 := ⟨by kernel_rfl⟩
instance : TyS Tryz.prog 23 := tqS
instance : Zo Tryz.prog 23 false := tqI
instance : Yv Tryz.prog 23 := tqF
instance : ZG Tryz.prog 23 1 := tqN
instance : Zn Tryz.prog 23 8 := tqB
instance : Zr Tryz.prog 23 (.nilFunc) := tqO
instance : TyS Tryz.prog 24 := tqS
instance : Zo Tryz.prog 24 false := tqI
instance : ZG Tryz.prog 24 1 := tqN
instance : Zn Tryz.prog 24 8 := tqB
instance : Zr Tryz.prog 24 (.pointer none) := tqO
instance : TyPtr Tryz.prog 24 106 := ⟨by kernel_rfl⟩
instance : TyS Tryz.prog 25 := tqS
instance : Zo Tryz.prog 25 false := tqI
instance : ZG Tryz.prog 25 1 := tqN
instance : Zn Tryz.prog 25 8 := tqB
instance : Zr Tryz.prog 25 (.int .i64 0) := tqO
instance : YW Tryz.prog 25 .i64 := ⟨by kernel_rfl⟩
instance : TyS Tryz.prog 29 := tqS
instance : Zo Tryz.prog 29 false := tqI
instance : ZG Tryz.prog 29 1 := tqN
instance : Zn Tryz.prog 29 24 := tqB
instance : Zr Tryz.prog 29 (.slice none 0 0) := tqO
instance : ZT Tryz.prog 29 240 := ⟨by kernel_rfl⟩
instance : TyS Tryz.prog 30 := tqS
instance : Zo Tryz.prog 30 false := tqI
instance : ZG Tryz.prog 30 1 := tqN
instance : Zn Tryz.prog 30 24 := tqB
instance : Zr Tryz.prog 30 (.slice none 0 0) := tqO
instance : ZT Tryz.prog 30 246 := ⟨by kernel_rfl⟩
instance : TyS Tryz.prog 31 := tqS
instance : Zo Tryz.prog 31 false := tqI
instance : ZG Tryz.prog 31 1 := tqN
instance : Zn Tryz.prog 31 24 := tqB
instance : Zr Tryz.prog 31 (.slice none 0 0) := tqO
instance : ZT Tryz.prog 31 253 := ⟨by kernel_rfl⟩
instance : TyS Tryz.prog 32 := tqS
instance : Zo Tryz.prog 32 false := tqI
instance : ZG Tryz.prog 32 1 := tqN
instance : Zn Tryz.prog 32 24 := tqB
instance : Zr Tryz.prog 32 (.slice none 0 0) := tqO
instance : ZT Tryz.prog 32 72 := ⟨by kernel_rfl⟩
instance : TyA Tryz.prog 33 10 := tqA
instance : Zo Tryz.prog 33 false := tqI
instance : ZG Tryz.prog 33 10 := tqN
instance : Zn Tryz.prog 33 144 := tqB
instance : Zr Tryz.prog 33 (.agg ⟨[.int .i64 0, .int .u64 0, .int .i64 0, .int .u64 0, .int .u64 0, .slice none 0 0, .slice none 0 0, .int .i64 0, .slice none 0 0, .slice none 0 0]⟩) := tqO
instance : ZJ Tryz.prog 33 := ⟨by kernel_rfl⟩
instance : Yb Tryz.prog 33 0 0 3 := Ye
instance : Yb Tryz.prog 33 1 1 22 := Ye
instance : Yb Tryz.prog 33 2 2 3 := Ye
instance : Yb Tryz.prog 33 3 3 22 := Ye
instance : Yb Tryz.prog 33 4 4 22 := Ye
instance : Yb Tryz.prog 33 5 5 29 := Ye
instance : Yb Tryz.prog 33 6 6 30 := Ye
instance : Yb Tryz.prog 33 7 7 3 := Ye
instance : Yb Tryz.prog 33 8 8 31 := Ye
instance : Yb Tryz.prog 33 9 9 32 := Ye
instance : ZF Tryz.prog 33 (([(0, 1), (1, 1), (2, 1), (3, 1), (4, 1), (5, 1), (6, 1), (7, 1), (8, 1), (9, 1)] : List (Nat × Nat))[·]?) := ZB (by kernel_rfl)
instance : TyA Tryz.prog 34 10 := tqA
instance : Zo Tryz.prog 34 false := tqI
instance : ZG Tryz.prog 34 10 := tqN
instance : Zn Tryz.prog 34 144 := tqB
instance : Zr Tryz.prog 34 (.agg ⟨[.int .i64 0, .int .u64 0, .int .i64 0, .int .u64 0, .int .u64 0, .slice none 0 0, .slice none 0 0, .int .i64 0, .slice none 0 0, .slice none 0 0]⟩) := tqO
instance : ZJ Tryz.prog 34 := ⟨by kernel_rfl⟩
instance : Xr Tryz.prog 34 [(0, 3), (1, 22), (2, 3), (3, 22), (4, 22), (5, 29), (6, 30), (7, 3), (8, 31), (9, 32)] := YD (by kernel_rfl)
instance : Yb Tryz.prog 34 0 0 3 := Ye
instance : Yb Tryz.prog 34 1 1 22 := Ye
instance : Yb Tryz.prog 34 2 2 3 := Ye
instance : Yb Tryz.prog 34 3 3 22 := Ye
instance : Yb Tryz.prog 34 4 4 22 := Ye
instance : Yb Tryz.prog 34 5 5 29 := Ye
instance : Yb Tryz.prog 34 6 6 30 := Ye
instance : Yb Tryz.prog 34 7 7 3 := Ye
instance : Yb Tryz.prog 34 8 8 31 := Ye
instance : Yb Tryz.prog 34 9 9 32 := Ye
instance : ZF Tryz.prog 34 (([(0, 1), (1, 1), (2, 1), (3, 1), (4, 1), (5, 1), (6, 1), (7, 1), (8, 1), (9, 1)] : List (Nat × Nat))[·]?) := ZB (by kernel_rfl)
instance : TyS Tryz.prog 40 := tqS
instance : Zo Tryz.prog 40 false := tqI
instance : ZG Tryz.prog 40 1 := tqN
instance : Zn Tryz.prog 40 24 := tqB
instance : Zr Tryz.prog 40 (.slice none 0 0) := tqO
instance : ZT Tryz.prog 40 34 := ⟨by kernel_rfl⟩
instance : TyS Tryz.prog 44 := tqS
instance : Zo Tryz.prog 44 false := tqI
instance : Yv Tryz.prog 44 := tqF
instance : ZG Tryz.prog 44 1 := tqN
instance : Zn Tryz.prog 44 8 := tqB
instance : Zr Tryz.prog 44 (.nilFunc) := tqO
instance : TyS Tryz.prog 46 := tqS
instance : Zo Tryz.prog 46 false := tqI
instance : ZG Tryz.prog 46 1 := tqN
instance : Zn Tryz.prog 46 8 := tqB
instance : Zr Tryz.prog 46 (.pointer none) := tqO
instance : TyPtr Tryz.prog 46 59 := ⟨by kernel_rfl⟩
instance : TyS Tryz.prog 48 := tqS
instance : Zo Tryz.prog 48 false := tqI
instance : Yv Tryz.prog 48 := tqF
instance : ZG Tryz.prog 48 1 := tqN
instance : Zn Tryz.prog 48 8 := tqB
instance : Zr Tryz.prog 48 (.nilFunc) := tqO
instance : TyS Tryz.prog 50 := tqS
instance : Zo Tryz.prog 50 false := tqI
instance : ZG Tryz.prog 50 1 := tqN
instance : Zn Tryz.prog 50 24 := tqB
instance : Zr Tryz.prog 50 (.slice none 0 0) := tqO
instance : ZT Tryz.prog 50 67 := ⟨by kernel_rfl⟩
instance : TyS Tryz.prog 54 := tqS
instance : Zo Tryz.prog 54 false := tqI
instance : ZG Tryz.prog 54 1 := tqN
instance : Zn Tryz.prog 54 8 := tqB
instance : Zr Tryz.prog 54 (.int .u64 0) := tqO
instance : YW Tryz.prog 54 .u64 := ⟨by kernel_rfl⟩
instance : TyS Tryz.prog 55 := tqS
instance : Zo Tryz.prog 55 false := tqI
instance : ZG Tryz.prog 55 1 := tqN
instance : Zn Tryz.prog 55 8 := tqB
instance : Zr Tryz.prog 55 (.pointer none) := tqO
instance : TyPtr Tryz.prog 55 159 := ⟨by kernel_rfl⟩
instance : TyS Tryz.prog 56 := tqS
instance : Zo Tryz.prog 56 false := tqI
instance : ZG Tryz.prog 56 1 := tqN
instance : Zn Tryz.prog 56 8 := tqB
instance : Zr Tryz.prog 56 (.pointer none) := tqO
instance : TyPtr Tryz.prog 56 226 := ⟨by kernel_rfl⟩
instance : TyS Tryz.prog 57 := tqS
instance : Zo Tryz.prog 57 false := tqI
instance : ZG Tryz.prog 57 1 := tqN
instance : Zn Tryz.prog 57 8 := tqB
instance : Zr Tryz.prog 57 (.pointer none) := tqO
instance : TyPtr Tryz.prog 57 135 := ⟨by kernel_rfl⟩
instance : TyA Tryz.prog 58 4 := tqA
instance : Zo Tryz.prog 58 false := tqI
instance : ZG Tryz.prog 58 4 := tqN
instance : Zn Tryz.prog 58 32 := tqB
instance : Zr Tryz.prog 58 (.agg ⟨[.pointer none, .pointer none, .pointer none, .pointer none]⟩) := tqO
instance : ZJ Tryz.prog 58 := ⟨by kernel_rfl⟩
instance : Yb Tryz.prog 58 0 0 55 := Ye
instance : Yb Tryz.prog 58 1 1 56 := Ye
instance : Yb Tryz.prog 58 2 2 24 := Ye
instance : Yb Tryz.prog 58 3 3 57 := Ye
instance : ZF Tryz.prog 58 (([(0, 1), (1, 1), (2, 1), (3, 1)] : List (Nat × Nat))[·]?) := ZB (by kernel_rfl)
instance : TyA Tryz.prog 59 4 := tqA
instance : Zo Tryz.prog 59 false := tqI
instance : ZG Tryz.prog 59 4 := tqN
instance : Zn Tryz.prog 59 32 := tqB
instance : Zr Tryz.prog 59 (.agg ⟨[.pointer none, .pointer none, .pointer none, .pointer none]⟩) := tqO
instance : ZJ Tryz.prog 59 := ⟨by kernel_rfl⟩
instance : Xr Tryz.prog 59 [(0, 55), (1, 56), (2, 24), (3, 57)] := YD (by kernel_rfl)
instance : Yb Tryz.prog 59 0 0 55 := Ye
instance : Yb Tryz.prog 59 1 1 56 := Ye
instance : Yb Tryz.prog 59 2 2 24 := Ye
instance : Yb Tryz.prog 59 3 3 57 := Ye
instance : ZF Tryz.prog 59 (([(0, 1), (1, 1), (2, 1), (3, 1)] : List (Nat × Nat))[·]?) := ZB (by kernel_rfl)
instance : TyS Tryz.prog 62 := tqS
instance : Zo Tryz.prog 62 false := tqI
instance : ZG Tryz.prog 62 1 := tqN
instance : Zn Tryz.prog 62 24 := tqB
instance : Zr Tryz.prog 62 (.slice none 0 0) := tqO
instance : ZT Tryz.prog 62 130 := ⟨by kernel_rfl⟩
instance : TyS Tryz.prog 63 := tqS
instance : Zo Tryz.prog 63 false := tqI
instance : ZG Tryz.prog 63 1 := tqN
instance : Zn Tryz.prog 63 24 := tqB
instance : Zr Tryz.prog 63 (.slice none 0 0) := tqO
instance : ZT Tryz.prog 63 149 := ⟨by kernel_rfl⟩
instance : TyA Tryz.prog 64 3 := tqA
instance : Zo Tryz.prog 64 false := tqI
instance : ZG Tryz.prog 64 3 := tqN
instance : Zn Tryz.prog 64 56 := tqB
instance : Zr Tryz.prog 64 (.agg ⟨[.int .i64 0, .slice none 0 0, .slice none 0 0]⟩) := tqO
instance : ZJ Tryz.prog 64 := ⟨by kernel_rfl⟩
instance : Yb Tryz.prog 64 0 0 3 := Ye
instance : Yb Tryz.prog 64 1 1 62 := Ye
instance : Yb Tryz.prog 64 2 2 63 := Ye
instance : ZF Tryz.prog 64 (([(0, 1), (1, 1), (2, 1)] : List (Nat × Nat))[·]?) := ZB (by kernel_rfl)
instance : TyA Tryz.prog 65 3 := tqA
instance : Zo Tryz.prog 65 false := tqI
instance : ZG Tryz.prog 65 3 := tqN
instance : Zn Tryz.prog 65 56 := tqB
instance : Zr Tryz.prog 65 (.agg ⟨[.int .i64 0, .slice none 0 0, .slice none 0 0]⟩) := tqO
instance : ZJ Tryz.prog 65 := ⟨by kernel_rfl⟩
instance : Xr Tryz.prog 65 [(0, 3), (1, 62), (2, 63)] := YD (by kernel_rfl)
instance : Yb Tryz.prog 65 0 0 3 := Ye
instance : Yb Tryz.prog 65 1 1 62 := Ye
instance : Yb Tryz.prog 65 2 2 63 := Ye
instance : ZF Tryz.prog 65 (([(0, 1), (1, 1), (2, 1)] : List (Nat × Nat))[·]?) := ZB (by kernel_rfl)
instance : TyA Tryz.prog 66 4 := tqA
instance : Zo Tryz.prog 66 false := tqI
instance : ZG Tryz.prog 66 4 := tqN
instance : Zn Tryz.prog 66 64 := tqB
instance : Zr Tryz.prog 66 (.agg ⟨[.int .i64 0, .int .i64 0, .slice none 0 0, .slice none 0 0]⟩) := tqO
instance : ZJ Tryz.prog 66 := ⟨by kernel_rfl⟩
instance : Yb Tryz.prog 66 0 0 3 := Ye
instance : Yb Tryz.prog 66 1 1 65 := Ye
instance : ZF Tryz.prog 66 (([(0, 1), (1, 3)] : List (Nat × Nat))[·]?) := ZB (by kernel_rfl)
instance : TyA Tryz.prog 67 4 := tqA
instance : Zo Tryz.prog 67 false := tqI
instance : ZG Tryz.prog 67 4 := tqN
instance : Zn Tryz.prog 67 64 := tqB
instance : Zr Tryz.prog 67 (.agg ⟨[.int .i64 0, .int .i64 0, .slice none 0 0, .slice none 0 0]⟩) := tqO
instance : ZJ Tryz.prog 67 := ⟨by kernel_rfl⟩
instance : Xr Tryz.prog 67 [(0, 3), (1, 65)] := YD (by kernel_rfl)
instance : Yb Tryz.prog 67 0 0 3 := Ye
instance : Yb Tryz.prog 67 1 1 65 := Ye
instance : ZF Tryz.prog 67 (([(0, 1), (1, 3)] : List (Nat × Nat))[·]?) := ZB (by kernel_rfl)
instance : TyS Tryz.prog 69 := tqS
instance : Zo Tryz.prog 69 false := tqI
instance : ZG Tryz.prog 69 1 := tqN
instance : Zn Tryz.prog 69 8 := tqB
instance : Zr Tryz.prog 69 (.map none) := tqO
instance : Va Tryz.prog 69 3 4 := ⟨by kernel_rfl⟩
instance : TyA Tryz.prog 71 2 := tqA
instance : Zo Tryz.prog 71 false := tqI
instance : ZG Tryz.prog 71 2 := tqN
instance : Zn Tryz.prog 71 16 := tqB
instance : Zr Tryz.prog 71 (.agg ⟨[.int .i64 0, .int .u64 0]⟩) := tqO
instance : ZJ Tryz.prog 71 := ⟨by kernel_rfl⟩
instance : Yb Tryz.prog 71 0 0 3 := Ye
instance : Yb Tryz.prog 71 1 1 22 := Ye
instance : ZF Tryz.prog 71 (([(0, 1), (1, 1)] : List (Nat × Nat))[·]?) := ZB (by kernel_rfl)
instance : TyA Tryz.prog 72 2 := tqA
instance : Zo Tryz.prog 72 false := tqI
instance : ZG Tryz.prog 72 2 := tqN
instance : Zn Tryz.prog 72 16 := tqB
instance : Zr Tryz.prog 72 (.agg ⟨[.int .i64 0, .int .u64 0]⟩) := tqO
instance : ZJ Tryz.prog 72 := ⟨by kernel_rfl⟩
instance : Xr Tryz.prog 72 [(0, 3), (1, 22)] := YD (by kernel_rfl)
instance : Yb Tryz.prog 72 0 0 3 := Ye
instance : Yb Tryz.prog 72 1 1 22 := Ye
instance : ZF Tryz.prog 72 (([(0, 1), (1, 1)] : List (Nat × Nat))[·]?) := ZB (by kernel_rfl)
instance : TyS Tryz.prog 79 := tqS
instance : Zo Tryz.prog 79 false := tqI
instance : ZG Tryz.prog 79 1 := tqN
instance : Zn Tryz.prog 79 24 := tqB
instance : Zr Tryz.prog 79 (.slice none 0 0) := tqO
instance : ZT Tryz.prog 79 65 := ⟨by kernel_rfl⟩
instance : TyA Tryz.prog 80 1 := tqA
instance : Zo Tryz.prog 80 false := tqI
instance : ZG Tryz.prog 80 1 := tqN
instance : Zn Tryz.prog 80 24 := tqB
instance : Zr Tryz.prog 80 (.agg ⟨[.slice none 0 0]⟩) := tqO
instance : ZJ Tryz.prog 80 := ⟨by kernel_rfl⟩
instance : Yb Tryz.prog 80 0 0 79 := Ye
instance : ZF Tryz.prog 80 (([(0, 1)] : List (Nat × Nat))[·]?) := ZB (by kernel_rfl)
instance : TyA Tryz.prog 81 1 := tqA
instance : Zo Tryz.prog 81 false := tqI
instance : ZG Tryz.prog 81 1 := tqN
instance : Zn Tryz.prog 81 24 := tqB
instance : Zr Tryz.prog 81 (.agg ⟨[.slice none 0 0]⟩) := tqO
instance : ZJ Tryz.prog 81 := ⟨by kernel_rfl⟩
instance : Xr Tryz.prog 81 [(0, 79)] := YD (by kernel_rfl)
instance : Yb Tryz.prog 81 0 0 79 := Ye
instance : ZF Tryz.prog 81 (([(0, 1)] : List (Nat × Nat))[·]?) := ZB (by kernel_rfl)
instance : TyS Tryz.prog 84 := tqS
instance : Zo Tryz.prog 84 false := tqI
instance : ZG Tryz.prog 84 1 := tqN
instance : Zn Tryz.prog 84 24 := tqB
instance : Zr Tryz.prog 84 (.slice none 0 0) := tqO
instance : ZT Tryz.prog 84 3 := ⟨by kernel_rfl⟩
instance : TyS Tryz.prog 87 := tqS
instance : Zo Tryz.prog 87 false := tqI
instance : ZG Tryz.prog 87 1 := tqN
instance : Zn Tryz.prog 87 24 := tqB
instance : Zr Tryz.prog 87 (.slice none 0 0) := tqO
instance : ZT Tryz.prog 87 4 := ⟨by kernel_rfl⟩
instance : TyA Tryz.prog 88 2 := tqA
instance : Zo Tryz.prog 88 false := tqI
instance : ZG Tryz.prog 88 2 := tqN
instance : Zn Tryz.prog 88 32 := tqB
instance : Zr Tryz.prog 88 (.agg ⟨[.int .i64 0, .slice none 0 0]⟩) := tqO
instance : ZJ Tryz.prog 88 := ⟨by kernel_rfl⟩
instance : Yb Tryz.prog 88 0 0 3 := Ye
instance : Yb Tryz.prog 88 1 1 87 := Ye
instance : ZF Tryz.prog 88 (([(0, 1), (1, 1)] : List (Nat × Nat))[·]?) := ZB (by kernel_rfl)
instance : TyS Tryz.prog 96 := tqS
instance : Zo Tryz.prog 96 false := tqI
instance : Yv Tryz.prog 96 := tqF
instance : ZG Tryz.prog 96 1 := tqN
instance : Zn Tryz.prog 96 8 := tqB
instance : Zr Tryz.prog 96 (.nilFunc) := tqO
instance : TyS Tryz.prog 102 := tqS
instance : Zo Tryz.prog 102 false := tqI
instance : ZG Tryz.prog 102 1 := tqN
instance : Zn Tryz.prog 102 8 := tqB
instance : Zr Tryz.prog 102 (.pointer none) := tqO
instance : TyPtr Tryz.prog 102 178 := ⟨by kernel_rfl⟩
instance : TyA Tryz.prog 105 7 := tqA
instance : Zo Tryz.prog 105 false := tqI
instance : ZG Tryz.prog 105 7 := tqN
instance : Zn Tryz.prog 105 72 := tqB
instance : Zr Tryz.prog 105 (.agg ⟨[.pointer none, .int .u64 0, .int .u64 0, .int .u64 0, .int .i64 0, .slice none 0 0, .int .i64 0]⟩) := tqO
instance : ZJ Tryz.prog 105 := ⟨by kernel_rfl⟩
instance : Yb Tryz.prog 105 0 0 102 := Ye
instance : Yb Tryz.prog 105 1 1 22 := Ye
instance : Yb Tryz.prog 105 2 2 22 := Ye
instance : Yb Tryz.prog 105 3 3 22 := Ye
instance : Yb Tryz.prog 105 4 4 3 := Ye
instance : Yb Tryz.prog 105 5 5 40 := Ye
instance : Yb Tryz.prog 105 6 6 3 := Ye
instance : ZF Tryz.prog 105 (([(0, 1), (1, 1), (2, 1), (3, 1), (4, 1), (5, 1), (6, 1)] : List (Nat × Nat))[·]?) := ZB (by kernel_rfl)
instance : TyA Tryz.prog 106 7 := tqA
instance : Zo Tryz.prog 106 false := tqI
instance : ZG Tryz.prog 106 7 := tqN
instance : Zn Tryz.prog 106 72 := tqB
instance : Zr Tryz.prog 106 (.agg ⟨[.pointer none, .int .u64 0, .int .u64 0, .int .u64 0, .int .i64 0, .slice none 0 0, .int .i64 0]⟩) := tqO
instance : ZJ Tryz.prog 106 := ⟨by kernel_rfl⟩
instance : Xr Tryz.prog 106 [(0, 102), (1, 22), (2, 22), (3, 22), (4, 3), (5, 40), (6, 3)] := YD (by kernel_rfl)
instance : Yb Tryz.prog 106 0 0 102 := Ye
instance : Yb Tryz.prog 106 1 1 22 := Ye
instance : Yb Tryz.prog 106 2 2 22 := Ye
instance : Yb Tryz.prog 106 3 3 22 := Ye
instance : Yb Tryz.prog 106 4 4 3 := Ye
instance : Yb Tryz.prog 106 5 5 40 := Ye
instance : Yb Tryz.prog 106 6 6 3 := Ye
instance : ZF Tryz.prog 106 (([(0, 1), (1, 1), (2, 1), (3, 1), (4, 1), (5, 1), (6, 1)] : List (Nat × Nat))[·]?) := ZB (by kernel_rfl)
instance : TyS Tryz.prog 109 := tqS
instance : Zo Tryz.prog 109 false := tqI
instance : ZG Tryz.prog 109 1 := tqN
instance : Zn Tryz.prog 109 24 := tqB
instance : Zr Tryz.prog 109 (.slice none 0 0) := tqO
instance : ZT Tryz.prog 109 5 := ⟨by kernel_rfl⟩
instance : TyS Tryz.prog 113 := tqS
instance : Zo Tryz.prog 113 false := tqI
instance : ZG Tryz.prog 113 1 := tqN
instance : Zn Tryz.prog 113 24 := tqB
instance : Zr Tryz.prog 113 (.slice none 0 0) := tqO
instance : ZT Tryz.prog 113 109 := ⟨by kernel_rfl⟩
instance : TyS Tryz.prog 115 := tqS
instance : Zo Tryz.prog 115 false := tqI
instance : Yv Tryz.prog 115 := tqF
instance : ZG Tryz.prog 115 1 := tqN
instance : Zn Tryz.prog 115 8 := tqB
instance : Zr Tryz.prog 115 (.nilFunc) := tqO
instance : TyS Tryz.prog 116 := tqS
instance : Zo Tryz.prog 116 false := tqI
instance : Yv Tryz.prog 116 := tqF
instance : ZG Tryz.prog 116 1 := tqN
instance : Zn Tryz.prog 116 8 := tqB
instance : Zr Tryz.prog 116 (.nilFunc) := tqO
instance : TyS Tryz.prog 126 := tqS
instance : Zo Tryz.prog 126 false := tqI
instance : ZG Tryz.prog 126 1 := tqN
instance : Zn Tryz.prog 126 2 := tqB
instance : Zr Tryz.prog 126 (.int .u16 0) := tqO
instance : YW Tryz.prog 126 .u16 := ⟨by kernel_rfl⟩
instance : TyA Tryz.prog 127 2 := tqA
instance : Zo Tryz.prog 127 false := tqI
instance : ZG Tryz.prog 127 2 := tqN
instance : Zn Tryz.prog 127 16 := tqB
instance : Zr Tryz.prog 127 (.agg ⟨[.int .i64 0, .int .u16 0]⟩) := tqO
instance : ZJ Tryz.prog 127 := ⟨by kernel_rfl⟩
instance : Yb Tryz.prog 127 0 0 3 := Ye
instance : Yb Tryz.prog 127 1 1 126 := Ye
instance : ZF Tryz.prog 127 (([(0, 1), (1, 1)] : List (Nat × Nat))[·]?) := ZB (by kernel_rfl)
instance : TyA Tryz.prog 128 2 := tqA
instance : Zo Tryz.prog 128 false := tqI
instance : ZG Tryz.prog 128 2 := tqN
instance : Zn Tryz.prog 128 16 := tqB
instance : Zr Tryz.prog 128 (.agg ⟨[.int .i64 0, .int .u16 0]⟩) := tqO
instance : ZJ Tryz.prog 128 := ⟨by kernel_rfl⟩
instance : Xr Tryz.prog 128 [(0, 3), (1, 126)] := YD (by kernel_rfl)
instance : Yb Tryz.prog 128 0 0 3 := Ye
instance : Yb Tryz.prog 128 1 1 126 := Ye
instance : ZF Tryz.prog 128 (([(0, 1), (1, 1)] : List (Nat × Nat))[·]?) := ZB (by kernel_rfl)
instance : TyA Tryz.prog 129 4 := tqA
instance : Zo Tryz.prog 129 false := tqI
instance : ZG Tryz.prog 129 4 := tqN
instance : Zn Tryz.prog 129 40 := tqB
instance : Zr Tryz.prog 129 (.agg ⟨[.int .i64 0, .int .u16 0, .int .i64 0, .string ⟨⟨[]⟩⟩]⟩) := tqO
instance : ZJ Tryz.prog 129 := ⟨by kernel_rfl⟩
instance : Yb Tryz.prog 129 0 0 128 := Ye
instance : Yb Tryz.prog 129 1 2 2 := Ye
instance : Yb Tryz.prog 129 2 3 9 := Ye
instance : ZF Tryz.prog 129 (([(0, 2), (2, 1), (3, 1)] : List (Nat × Nat))[·]?) := ZB (by kernel_rfl)
instance : TyA Tryz.prog 130 4 := tqA
instance : Zo Tryz.prog 130 false := tqI
instance : ZG Tryz.prog 130 4 := tqN
instance : Zn Tryz.prog 130 40 := tqB
instance : Zr Tryz.prog 130 (.agg ⟨[.int .i64 0, .int .u16 0, .int .i64 0, .string ⟨⟨[]⟩⟩]⟩) := tqO
instance : ZJ Tryz.prog 130 := ⟨by kernel_rfl⟩
instance : Xr Tryz.prog 130 [(0, 128), (2, 2), (3, 9)] := YD (by kernel_rfl)
instance : Yb Tryz.prog 130 0 0 128 := Ye
instance : Yb Tryz.prog 130 1 2 2 := Ye
instance : Yb Tryz.prog 130 2 3 9 := Ye
instance : ZF Tryz.prog 130 (([(0, 2), (2, 1), (3, 1)] : List (Nat × Nat))[·]?) := ZB (by kernel_rfl)
instance : TyA Tryz.prog 131 5 := tqA
instance : Zo Tryz.prog 131 false := tqI
instance : ZG Tryz.prog 131 5 := tqN
instance : Zn Tryz.prog 131 72 := tqB
instance : Zr Tryz.prog 131 (.agg ⟨[.int .i64 0, .slice none 0 0, .slice none 0 0, .int .u64 0, .int .u64 0]⟩) := tqO
instance : ZJ Tryz.prog 131 := ⟨by kernel_rfl⟩
instance : Yb Tryz.prog 131 0 0 65 := Ye
instance : Yb Tryz.prog 131 1 3 22 := Ye
instance : Yb Tryz.prog 131 2 4 22 := Ye
instance : ZF Tryz.prog 131 (([(0, 3), (3, 1), (4, 1)] : List (Nat × Nat))[·]?) := ZB (by kernel_rfl)
instance : TyA Tryz.prog 132 5 := tqA
instance : Zo Tryz.prog 132 false := tqI
instance : ZG Tryz.prog 132 5 := tqN
instance : Zn Tryz.prog 132 72 := tqB
instance : Zr Tryz.prog 132 (.agg ⟨[.int .i64 0, .slice none 0 0, .slice none 0 0, .int .u64 0, .int .u64 0]⟩) := tqO
instance : ZJ Tryz.prog 132 := ⟨by kernel_rfl⟩
instance : Xr Tryz.prog 132 [(0, 65), (3, 22), (4, 22)] := YD (by kernel_rfl)
instance : Yb Tryz.prog 132 0 0 65 := Ye
instance : Yb Tryz.prog 132 1 3 22 := Ye
instance : Yb Tryz.prog 132 2 4 22 := Ye
instance : ZF Tryz.prog 132 (([(0, 3), (3, 1), (4, 1)] : List (Nat × Nat))[·]?) := ZB (by kernel_rfl)
instance : TyS Tryz.prog 133 := tqS
instance : Zo Tryz.prog 133 false := tqI
instance : ZG Tryz.prog 133 1 := tqN
instance : Zn Tryz.prog 133 8 := tqB
instance : Zr Tryz.prog 133 (.map none) := tqO
instance : Va Tryz.prog 133 3 132 := ⟨by kernel_rfl⟩
instance : TyA Tryz.prog 134 3 := tqA
instance : Zo Tryz.prog 134 false := tqI
instance : ZG Tryz.prog 134 3 := tqN
instance : Zn Tryz.prog 134 24 := tqB
instance : Zr Tryz.prog 134 (.agg ⟨[.pointer none, .pointer none, .map none]⟩) := tqO
instance : ZJ Tryz.prog 134 := ⟨by kernel_rfl⟩
instance : Yb Tryz.prog 134 0 0 56 := Ye
instance : Yb Tryz.prog 134 1 1 24 := Ye
instance : Yb Tryz.prog 134 2 2 133 := Ye
instance : ZF Tryz.prog 134 (([(0, 1), (1, 1), (2, 1)] : List (Nat × Nat))[·]?) := ZB (by kernel_rfl)
instance : TyA Tryz.prog 135 3 := tqA
instance : Zo Tryz.prog 135 false := tqI
instance : ZG Tryz.prog 135 3 := tqN
instance : Zn Tryz.prog 135 24 := tqB
instance : Zr Tryz.prog 135 (.agg ⟨[.pointer none, .pointer none, .map none]⟩) := tqO
instance : ZJ Tryz.prog 135 := ⟨by kernel_rfl⟩
instance : Xr Tryz.prog 135 [(0, 56), (1, 24), (2, 133)] := YD (by kernel_rfl)
instance : Yb Tryz.prog 135 0 0 56 := Ye
instance : Yb Tryz.prog 135 1 1 24 := Ye
instance : Yb Tryz.prog 135 2 2 133 := Ye
instance : ZF Tryz.prog 135 (([(0, 1), (1, 1), (2, 1)] : List (Nat × Nat))[·]?) := ZB (by kernel_rfl)
instance : TyS Tryz.prog 139 := tqS
instance : Zo Tryz.prog 139 false := tqI
instance : Yv Tryz.prog 139 := tqF
instance : ZG Tryz.prog 139 1 := tqN
instance : Zn Tryz.prog 139 8 := tqB
instance : Zr Tryz.prog 139 (.nilFunc) := tqO
instance : TyS Tryz.prog 140 := tqS
instance : Zo Tryz.prog 140 false := tqI
instance : Yv Tryz.prog 140 := tqF
instance : ZG Tryz.prog 140 1 := tqN
instance : Zn Tryz.prog 140 8 := tqB
instance : Zr Tryz.prog 140 (.nilFunc) := tqO
instance : TyS Tryz.prog 141 := tqS
instance : Zo Tryz.prog 141 false := tqI
instance : Yv Tryz.prog 141 := tqF
instance : ZG Tryz.prog 141 1 := tqN
instance : Zn Tryz.prog 141 8 := tqB
instance : Zr Tryz.prog 141 (.nilFunc) := tqO
instance : TyS Tryz.prog 143 := tqS
instance : Zo Tryz.prog 143 false := tqI
instance : Yv Tryz.prog 143 := tqF
instance : ZG Tryz.prog 143 1 := tqN
instance : Zn Tryz.prog 143 8 := tqB
instance : Zr Tryz.prog 143 (.nilFunc) := tqO
instance : TyA Tryz.prog 148 3 := tqA
instance : Zo Tryz.prog 148 false := tqI
instance : ZG Tryz.prog 148 3 := tqN
instance : Zn Tryz.prog 148 24 := tqB
instance : Zr Tryz.prog 148 (.agg ⟨[.int .i64 0, .int .u16 0, .int .i64 0]⟩) := tqO
instance : ZJ Tryz.prog 148 := ⟨by kernel_rfl⟩
instance : Yb Tryz.prog 148 0 0 128 := Ye
instance : Yb Tryz.prog 148 1 2 3 := Ye
instance : ZF Tryz.prog 148 (([(0, 2), (2, 1)] : List (Nat × Nat))[·]?) := ZB (by kernel_rfl)
instance : TyA Tryz.prog 149 3 := tqA
instance : Zo Tryz.prog 149 false := tqI
instance : ZG Tryz.prog 149 3 := tqN
instance : Zn Tryz.prog 149 24 := tqB
instance : Zr Tryz.prog 149 (.agg ⟨[.int .i64 0, .int .u16 0, .int .i64 0]⟩) := tqO
instance : ZJ Tryz.prog 149 := ⟨by kernel_rfl⟩
instance : Xr Tryz.prog 149 [(0, 128), (2, 3)] := YD (by kernel_rfl)
instance : Yb Tryz.prog 149 0 0 128 := Ye
instance : Yb Tryz.prog 149 1 2 3 := Ye
instance : ZF Tryz.prog 149 (([(0, 2), (2, 1)] : List (Nat × Nat))[·]?) := ZB (by kernel_rfl)
instance : TyA Tryz.prog 150 7 := tqA
instance : Zo Tryz.prog 150 false := tqI
instance : ZG Tryz.prog 150 7 := tqN
instance : Zn Tryz.prog 150 88 := tqB
instance : Zr Tryz.prog 150 (.agg ⟨[.int .u64 0, .int .u64 0, .int .i64 0, .slice none 0 0, .slice none 0 0, .bool false, .int .u64 0]⟩) := tqO
instance : ZJ Tryz.prog 150 := ⟨by kernel_rfl⟩
instance : Yb Tryz.prog 150 0 0 22 := Ye
instance : Yb Tryz.prog 150 1 1 22 := Ye
instance : Yb Tryz.prog 150 2 2 65 := Ye
instance : Yb Tryz.prog 150 3 5 4 := Ye
instance : Yb Tryz.prog 150 4 6 22 := Ye
instance : ZF Tryz.prog 150 (([(0, 1), (1, 1), (2, 3), (5, 1), (6, 1)] : List (Nat × Nat))[·]?) := ZB (by kernel_rfl)
instance : TyA Tryz.prog 151 7 := tqA
instance : Zo Tryz.prog 151 false := tqI
instance : ZG Tryz.prog 151 7 := tqN
instance : Zn Tryz.prog 151 88 := tqB
instance : Zr Tryz.prog 151 (.agg ⟨[.int .u64 0, .int .u64 0, .int .i64 0, .slice none 0 0, .slice none 0 0, .bool false, .int .u64 0]⟩) := tqO
instance : ZJ Tryz.prog 151 := ⟨by kernel_rfl⟩
instance : Xr Tryz.prog 151 [(0, 22), (1, 22), (2, 65), (5, 4), (6, 22)] := YD (by kernel_rfl)
instance : Yb Tryz.prog 151 0 0 22 := Ye
instance : Yb Tryz.prog 151 1 1 22 := Ye
instance : Yb Tryz.prog 151 2 2 65 := Ye
instance : Yb Tryz.prog 151 3 5 4 := Ye
instance : Yb Tryz.prog 151 4 6 22 := Ye
instance : ZF Tryz.prog 151 (([(0, 1), (1, 1), (2, 3), (5, 1), (6, 1)] : List (Nat × Nat))[·]?) := ZB (by kernel_rfl)
instance : TyS Tryz.prog 156 := tqS
instance : Zo Tryz.prog 156 false := tqI
instance : ZG Tryz.prog 156 1 := tqN
instance : Zn Tryz.prog 156 24 := tqB
instance : Zr Tryz.prog 156 (.slice none 0 0) := tqO
instance : ZT Tryz.prog 156 172 := ⟨by kernel_rfl⟩
instance : TyS Tryz.prog 157 := tqS
instance : Zo Tryz.prog 157 false := tqI
instance : ZG Tryz.prog 157 1 := tqN
instance : Zn Tryz.prog 157 8 := tqB
instance : Zr Tryz.prog 157 (.map none) := tqO
instance : Va Tryz.prog 157 3 172 := ⟨by kernel_rfl⟩
instance : TyA Tryz.prog 158 6 := tqA
instance : Zo Tryz.prog 158 false := tqI
instance : ZG Tryz.prog 158 6 := tqN
instance : Zn Tryz.prog 158 64 := tqB
instance : Zr Tryz.prog 158 (.agg ⟨[.slice none 0 0, .map none, .int .i64 0, .int .i64 0, .int .i64 0, .bool false]⟩) := tqO
instance : ZJ Tryz.prog 158 := ⟨by kernel_rfl⟩
instance : Yb Tryz.prog 158 0 0 156 := Ye
instance : Yb Tryz.prog 158 1 1 157 := Ye
instance : Yb Tryz.prog 158 2 2 3 := Ye
instance : Yb Tryz.prog 158 3 3 3 := Ye
instance : Yb Tryz.prog 158 4 4 3 := Ye
instance : Yb Tryz.prog 158 5 5 4 := Ye
instance : ZF Tryz.prog 158 (([(0, 1), (1, 1), (2, 1), (3, 1), (4, 1), (5, 1)] : List (Nat × Nat))[·]?) := ZB (by kernel_rfl)
instance : TyA Tryz.prog 159 6 := tqA
instance : Zo Tryz.prog 159 false := tqI
instance : ZG Tryz.prog 159 6 := tqN
instance : Zn Tryz.prog 159 64 := tqB
instance : Zr Tryz.prog 159 (.agg ⟨[.slice none 0 0, .map none, .int .i64 0, .int .i64 0, .int .i64 0, .bool false]⟩) := tqO
instance : ZJ Tryz.prog 159 := ⟨by kernel_rfl⟩
instance : Xr Tryz.prog 159 [(0, 156), (1, 157), (2, 3), (3, 3), (4, 3), (5, 4)] := YD (by kernel_rfl)
instance : Yb Tryz.prog 159 0 0 156 := Ye
instance : Yb Tryz.prog 159 1 1 157 := Ye
instance : Yb Tryz.prog 159 2 2 3 := Ye
instance : Yb Tryz.prog 159 3 3 3 := Ye
instance : Yb Tryz.prog 159 4 4 3 := Ye
instance : Yb Tryz.prog 159 5 5 4 := Ye
instance : ZF Tryz.prog 159 (([(0, 1), (1, 1), (2, 1), (3, 1), (4, 1), (5, 1)] : List (Nat × Nat))[·]?) := ZB (by kernel_rfl)
instance : TyS Tryz.prog 168 := tqS
instance : Zo Tryz.prog 168 false := tqI
instance : Yv Tryz.prog 168 := tqF
instance : ZG Tryz.prog 168 1 := tqN
instance : Zn Tryz.prog 168 8 := tqB
instance : Zr Tryz.prog 168 (.nilFunc) := tqO
instance : TyS Tryz.prog 170 := tqS
instance : Zo Tryz.prog 170 false := tqI
instance : Yv Tryz.prog 170 := tqF
instance : ZG Tryz.prog 170 1 := tqN
instance : Zn Tryz.prog 170 8 := tqB
instance : Zr Tryz.prog 170 (.nilFunc) := tqO
instance : TyA Tryz.prog 171 64 := tqA
instance : Zo Tryz.prog 171 false := tqI
instance : ZG Tryz.prog 171 64 := tqN
instance : Zn Tryz.prog 171 64 := tqB
instance : Zr Tryz.prog 171 (.agg ⟨List.replicate 64 (.int .u8 0)⟩) := tqO
instance : ZJ Tryz.prog 171 := ⟨by kernel_rfl⟩
instance : WZ Tryz.prog 171 64 5 := ⟨by kernel_rfl⟩
instance : ZF Tryz.prog 171 (fun i => some (i * 1, 1)) := mkTyPlacesA (n := 64) (e := 5) (by kernel_rfl) (by kernel_rfl)
instance : TyA Tryz.prog 172 64 := tqA
instance : Zo Tryz.prog 172 false := tqI
instance : ZG Tryz.prog 172 64 := tqN
instance : Zn Tryz.prog 172 64 := tqB
instance : Zr Tryz.prog 172 (.agg ⟨List.replicate 64 (.int .u8 0)⟩) := tqO
instance : ZJ Tryz.prog 172 := ⟨by kernel_rfl⟩
instance : WZ Tryz.prog 172 64 5 := ⟨by kernel_rfl⟩
instance : ZF Tryz.prog 172 (fun i => some (i * 1, 1)) := mkTyPlacesA (n := 64) (e := 5) (by kernel_rfl) (by kernel_rfl)
instance : TyS Tryz.prog 173 := tqS
instance : Zo Tryz.prog 173 false := tqI
instance : Yv Tryz.prog 173 := tqF
instance : ZG Tryz.prog 173 1 := tqN
instance : Zn Tryz.prog 173 8 := tqB
instance : Zr Tryz.prog 173 (.nilFunc) := tqO
instance : TyA Tryz.prog 174 5 := tqA
instance : Zo Tryz.prog 174 false := tqI
instance : ZG Tryz.prog 174 5 := tqN
instance : Zn Tryz.prog 174 56 := tqB
instance : Zr Tryz.prog 174 (.agg ⟨[.int .u64 0, .int .u64 0, .int .i64 0, .int .i64 0, .slice none 0 0]⟩) := tqO
instance : ZJ Tryz.prog 174 := ⟨by kernel_rfl⟩
instance : Yb Tryz.prog 174 0 0 22 := Ye
instance : Yb Tryz.prog 174 1 1 22 := Ye
instance : Yb Tryz.prog 174 2 2 3 := Ye
instance : Yb Tryz.prog 174 3 3 3 := Ye
instance : Yb Tryz.prog 174 4 4 109 := Ye
instance : ZF Tryz.prog 174 (([(0, 1), (1, 1), (2, 1), (3, 1), (4, 1)] : List (Nat × Nat))[·]?) := ZB (by kernel_rfl)
instance : TyA Tryz.prog 175 5 := tqA
instance : Zo Tryz.prog 175 false := tqI
instance : ZG Tryz.prog 175 5 := tqN
instance : Zn Tryz.prog 175 56 := tqB
instance : Zr Tryz.prog 175 (.agg ⟨[.int .u64 0, .int .u64 0, .int .i64 0, .int .i64 0, .slice none 0 0]⟩) := tqO
instance : ZJ Tryz.prog 175 := ⟨by kernel_rfl⟩
instance : Xr Tryz.prog 175 [(0, 22), (1, 22), (2, 3), (3, 3), (4, 109)] := YD (by kernel_rfl)
instance : Yb Tryz.prog 175 0 0 22 := Ye
instance : Yb Tryz.prog 175 1 1 22 := Ye
instance : Yb Tryz.prog 175 2 2 3 := Ye
instance : Yb Tryz.prog 175 3 3 3 := Ye
instance : Yb Tryz.prog 175 4 4 109 := Ye
instance : ZF Tryz.prog 175 (([(0, 1), (1, 1), (2, 1), (3, 1), (4, 1)] : List (Nat × Nat))[·]?) := ZB (by kernel_rfl)
instance : TyA Tryz.prog 177 9 := tqA
instance : Zo Tryz.prog 177 false := tqI
instance : ZG Tryz.prog 177 9 := tqN
instance : Zn Tryz.prog 177 104 := tqB
instance : Zr Tryz.prog 177 (.agg ⟨[.int .u64 0, .int .u64 0, .int .i64 0, .int .i64 0, .slice none 0 0, .pointer none, .slice none 0 0, .int .i64 0, .bool false]⟩) := tqO
instance : ZJ Tryz.prog 177 := ⟨by kernel_rfl⟩
instance : Yb Tryz.prog 177 0 0 175 := Ye
instance : Yb Tryz.prog 177 1 5 55 := Ye
instance : Yb Tryz.prog 177 2 6 113 := Ye
instance : Yb Tryz.prog 177 3 7 3 := Ye
instance : Yb Tryz.prog 177 4 8 4 := Ye
instance : ZF Tryz.prog 177 (([(0, 5), (5, 1), (6, 1), (7, 1), (8, 1)] : List (Nat × Nat))[·]?) := ZB (by kernel_rfl)
instance : TyA Tryz.prog 178 9 := tqA
instance : Zo Tryz.prog 178 false := tqI
instance : ZG Tryz.prog 178 9 := tqN
instance : Zn Tryz.prog 178 104 := tqB
instance : Zr Tryz.prog 178 (.agg ⟨[.int .u64 0, .int .u64 0, .int .i64 0, .int .i64 0, .slice none 0 0, .pointer none, .slice none 0 0, .int .i64 0, .bool false]⟩) := tqO
instance : ZJ Tryz.prog 178 := ⟨by kernel_rfl⟩
instance : Xr Tryz.prog 178 [(0, 175), (5, 55), (6, 113), (7, 3), (8, 4)] := YD (by kernel_rfl)
instance : Yb Tryz.prog 178 0 0 175 := Ye
instance : Yb Tryz.prog 178 1 5 55 := Ye
instance : Yb Tryz.prog 178 2 6 113 := Ye
instance : Yb Tryz.prog 178 3 7 3 := Ye
instance : Yb Tryz.prog 178 4 8 4 := Ye
instance : ZF Tryz.prog 178 (([(0, 5), (5, 1), (6, 1), (7, 1), (8, 1)] : List (Nat × Nat))[·]?) := ZB (by kernel_rfl)
instance : TyA Tryz.prog 179 128 := tqA
instance : Zo Tryz.prog 179 false := tqI
instance : ZG Tryz.prog 179 128 := tqN
instance : Zn Tryz.prog 179 128 := tqB
instance : Zr Tryz.prog 179 (.agg ⟨List.replicate 128 (.int .u8 0)⟩) := tqO
instance : ZJ Tryz.prog 179 := ⟨by kernel_rfl⟩
instance : WZ Tryz.prog 179 2 172 := ⟨by kernel_rfl⟩
instance : ZF Tryz.prog 179 (fun i => some (i * 64, 64)) := mkTyPlacesA (n := 2) (e := 172) (by kernel_rfl) (by kernel_rfl)
instance : TyS Tryz.prog 187 := tqS
instance : Zo Tryz.prog 187 false := tqI
instance : ZG Tryz.prog 187 1 := tqN
instance : Zn Tryz.prog 187 8 := tqB
instance : Zr Tryz.prog 187 (.pointer none) := tqO
instance : TyPtr Tryz.prog 187 236 := ⟨by kernel_rfl⟩
instance : TyS Tryz.prog 192 := tqS
instance : Zo Tryz.prog 192 false := tqI
instance : ZG Tryz.prog 192 1 := tqN
instance : Zn Tryz.prog 192 4 := tqB
instance : Zr Tryz.prog 192 (.int .u32 0) := tqO
instance : YW Tryz.prog 192 .u32 := ⟨by kernel_rfl⟩
instance : TyS Tryz.prog 194 := tqS
instance : Zo Tryz.prog 194 false := tqI
instance : ZG Tryz.prog 194 1 := tqN
instance : Zn Tryz.prog 194 8 := tqB
instance : Zr Tryz.prog 194 (.map none) := tqO
instance : Va Tryz.prog 194 3 1 := ⟨by kernel_rfl⟩
instance : TyS Tryz.prog 196 := tqS
instance : Zo Tryz.prog 196 false := tqI
instance : Yv Tryz.prog 196 := tqF
instance : ZG Tryz.prog 196 1 := tqN
instance : Zn Tryz.prog 196 8 := tqB
instance : Zr Tryz.prog 196 (.nilFunc) := tqO
instance : TyS Tryz.prog 199 := tqS
instance : Zo Tryz.prog 199 false := tqI
instance : Yv Tryz.prog 199 := tqF
instance : ZG Tryz.prog 199 1 := tqN
instance : Zn Tryz.prog 199 8 := tqB
instance : Zr Tryz.prog 199 (.nilFunc) := tqO
instance : TyS Tryz.prog 201 := tqS
instance : Zo Tryz.prog 201 false := tqI
instance : Yv Tryz.prog 201 := tqF
instance : ZG Tryz.prog 201 1 := tqN
instance : Zn Tryz.prog 201 8 := tqB
instance : Zr Tryz.prog 201 (.nilFunc) := tqO
instance : TyS Tryz.prog 203 := tqS
instance : Zo Tryz.prog 203 false := tqI
instance : ZG Tryz.prog 203 1 := tqN
instance : Zn Tryz.prog 203 24 := tqB
instance : Zr Tryz.prog 203 (.slice none 0 0) := tqO
instance : ZT Tryz.prog 203 22 := ⟨by kernel_rfl⟩
instance : TyS Tryz.prog 212 := tqS
instance : Zo Tryz.prog 212 false := tqI
instance : Yv Tryz.prog 212 := tqF
instance : ZG Tryz.prog 212 1 := tqN
instance : Zn Tryz.prog 212 8 := tqB
instance : Zr Tryz.prog 212 (.nilFunc) := tqO
instance : TyS Tryz.prog 213 := tqS
instance : Zo Tryz.prog 213 false := tqI
instance : Yv Tryz.prog 213 := tqF
instance : ZG Tryz.prog 213 1 := tqN
instance : Zn Tryz.prog 213 8 := tqB
instance : Zr Tryz.prog 213 (.nilFunc) := tqO
instance : TyS Tryz.prog 223 := tqS
instance : Zo Tryz.prog 223 false := tqI
instance : Yv Tryz.prog 223 := tqF
instance : ZG Tryz.prog 223 1 := tqN
instance : Zn Tryz.prog 223 8 := tqB
instance : Zr Tryz.prog 223 (.nilFunc) := tqO
instance : TyA Tryz.prog 225 2 := tqA
instance : Zo Tryz.prog 225 false := tqI
instance : ZG Tryz.prog 225 2 := tqN
instance : Zn Tryz.prog 225 16 := tqB
instance : Zr Tryz.prog 225 (.agg ⟨[.pointer none, .int .i64 0]⟩) := tqO
instance : ZJ Tryz.prog 225 := ⟨by kernel_rfl⟩
instance : Yb Tryz.prog 225 0 0 55 := Ye
instance : Yb Tryz.prog 225 1 1 3 := Ye
instance : ZF Tryz.prog 225 (([(0, 1), (1, 1)] : List (Nat × Nat))[·]?) := ZB (by kernel_rfl)
instance : TyA Tryz.prog 226 2 := tqA
instance : Zo Tryz.prog 226 false := tqI
instance : ZG Tryz.prog 226 2 := tqN
instance : Zn Tryz.prog 226 16 := tqB
instance : Zr Tryz.prog 226 (.agg ⟨[.pointer none, .int .i64 0]⟩) := tqO
instance : ZJ Tryz.prog 226 := ⟨by kernel_rfl⟩
instance : Xr Tryz.prog 226 [(0, 55), (1, 3)] := YD (by kernel_rfl)
instance : Yb Tryz.prog 226 0 0 55 := Ye
instance : Yb Tryz.prog 226 1 1 3 := Ye
instance : ZF Tryz.prog 226 (([(0, 1), (1, 1)] : List (Nat × Nat))[·]?) := ZB (by kernel_rfl)
instance : TyS Tryz.prog 234 := tqS
instance : Zo Tryz.prog 234 false := tqI
instance : ZG Tryz.prog 234 1 := tqN
instance : Zn Tryz.prog 234 24 := tqB
instance : Zr Tryz.prog 234 (.slice none 0 0) := tqO
instance : ZT Tryz.prog 234 5 := ⟨by kernel_rfl⟩
instance : TyA Tryz.prog 235 2 := tqA
instance : Zo Tryz.prog 235 false := tqI
instance : ZG Tryz.prog 235 2 := tqN
instance : Zn Tryz.prog 235 32 := tqB
instance : Zr Tryz.prog 235 (.agg ⟨[.slice none 0 0, .int .i64 0]⟩) := tqO
instance : ZJ Tryz.prog 235 := ⟨by kernel_rfl⟩
instance : Yb Tryz.prog 235 0 0 234 := Ye
instance : Yb Tryz.prog 235 1 1 25 := Ye
instance : ZF Tryz.prog 235 (([(0, 1), (1, 1)] : List (Nat × Nat))[·]?) := ZB (by kernel_rfl)
instance : TyA Tryz.prog 236 2 := tqA
instance : Zo Tryz.prog 236 false := tqI
instance : ZG Tryz.prog 236 2 := tqN
instance : Zn Tryz.prog 236 32 := tqB
instance : Zr Tryz.prog 236 (.agg ⟨[.slice none 0 0, .int .i64 0]⟩) := tqO
instance : ZJ Tryz.prog 236 := ⟨by kernel_rfl⟩
instance : Xr Tryz.prog 236 [(0, 234), (1, 25)] := YD (by kernel_rfl)
instance : Yb Tryz.prog 236 0 0 234 := Ye
instance : Yb Tryz.prog 236 1 1 25 := Ye
instance : ZF Tryz.prog 236 (([(0, 1), (1, 1)] : List (Nat × Nat))[·]?) := ZB (by kernel_rfl)
instance : TyA Tryz.prog 239 7 := tqA
instance : Zo Tryz.prog 239 false := tqI
instance : ZG Tryz.prog 239 7 := tqN
instance : Zn Tryz.prog 239 120 := tqB
instance : Zr Tryz.prog 239 (.agg ⟨[.int .i64 0, .int .i64 0, .slice none 0 0, .slice none 0 0, .int .i64 0, .slice none 0 0, .slice none 0 0]⟩) := tqO
instance : ZJ Tryz.prog 239 := ⟨by kernel_rfl⟩
instance : Yb Tryz.prog 239 0 0 3 := Ye
instance : Yb Tryz.prog 239 1 1 65 := Ye
instance : Yb Tryz.prog 239 2 4 65 := Ye
instance : ZF Tryz.prog 239 (([(0, 1), (1, 3), (4, 3)] : List (Nat × Nat))[·]?) := ZB (by kernel_rfl)
instance : TyA Tryz.prog 240 7 := tqA
instance : Zo Tryz.prog 240 false := tqI
instance : ZG Tryz.prog 240 7 := tqN
instance : Zn Tryz.prog 240 120 := tqB
instance : Zr Tryz.prog 240 (.agg ⟨[.int .i64 0, .int .i64 0, .slice none 0 0, .slice none 0 0, .int .i64 0, .slice none 0 0, .slice none 0 0]⟩) := tqO
instance : ZJ Tryz.prog 240 := ⟨by kernel_rfl⟩
instance : Xr Tryz.prog 240 [(0, 3), (1, 65), (4, 65)] := YD (by kernel_rfl)
instance : Yb Tryz.prog 240 0 0 3 := Ye
instance : Yb Tryz.prog 240 1 1 65 := Ye
instance : Yb Tryz.prog 240 2 4 65 := Ye
instance : ZF Tryz.prog 240 (([(0, 1), (1, 3), (4, 3)] : List (Nat × Nat))[·]?) := ZB (by kernel_rfl)
instance : TyA Tryz.prog 245 6 := tqA
instance : Zo Tryz.prog 245 false := tqI
instance : ZG Tryz.prog 245 6 := tqN
instance : Zn Tryz.prog 245 56 := tqB
instance : Zr Tryz.prog 245 (.agg ⟨[.int .i64 0, .int .i64 0, .int .u16 0, .int .i64 0, .string ⟨⟨[]⟩⟩, .int .i64 0]⟩) := tqO
instance : ZJ Tryz.prog 245 := ⟨by kernel_rfl⟩
instance : Yb Tryz.prog 245 0 0 3 := Ye
instance : Yb Tryz.prog 245 1 1 130 := Ye
instance : Yb Tryz.prog 245 2 5 2 := Ye
instance : ZF Tryz.prog 245 (([(0, 1), (1, 4), (5, 1)] : List (Nat × Nat))[·]?) := ZB (by kernel_rfl)
instance : TyA Tryz.prog 246 6 := tqA
instance : Zo Tryz.prog 246 false := tqI
instance : ZG Tryz.prog 246 6 := tqN
instance : Zn Tryz.prog 246 56 := tqB
instance : Zr Tryz.prog 246 (.agg ⟨[.int .i64 0, .int .i64 0, .int .u16 0, .int .i64 0, .string ⟨⟨[]⟩⟩, .int .i64 0]⟩) := tqO
instance : ZJ Tryz.prog 246 := ⟨by kernel_rfl⟩
instance : Xr Tryz.prog 246 [(0, 3), (1, 130), (5, 2)] := YD (by kernel_rfl)
instance : Yb Tryz.prog 246 0 0 3 := Ye
instance : Yb Tryz.prog 246 1 1 130 := Ye
instance : Yb Tryz.prog 246 2 5 2 := Ye
instance : ZF Tryz.prog 246 (([(0, 1), (1, 4), (5, 1)] : List (Nat × Nat))[·]?) := ZB (by kernel_rfl)
instance : TyA Tryz.prog 252 5 := tqA
instance : Zo Tryz.prog 252 false := tqI
instance : ZG Tryz.prog 252 5 := tqN
instance : Zn Tryz.prog 252 40 := tqB
instance : Zr Tryz.prog 252 (.agg ⟨[.int .i64 0, .int .u64 0, .int .u64 0, .int .u64 0, .int .i64 0]⟩) := tqO
instance : ZJ Tryz.prog 252 := ⟨by kernel_rfl⟩
instance : Yb Tryz.prog 252 0 0 3 := Ye
instance : Yb Tryz.prog 252 1 1 22 := Ye
instance : Yb Tryz.prog 252 2 2 22 := Ye
instance : Yb Tryz.prog 252 3 3 22 := Ye
instance : Yb Tryz.prog 252 4 4 3 := Ye
instance : ZF Tryz.prog 252 (([(0, 1), (1, 1), (2, 1), (3, 1), (4, 1)] : List (Nat × Nat))[·]?) := ZB (by kernel_rfl)
instance : TyA Tryz.prog 253 5 := tqA
instance : Zo Tryz.prog 253 false := tqI
instance : ZG Tryz.prog 253 5 := tqN
instance : Zn Tryz.prog 253 40 := tqB
instance : Zr Tryz.prog 253 (.agg ⟨[.int .i64 0, .int .u64 0, .int .u64 0, .int .u64 0, .int .i64 0]⟩) := tqO
instance : ZJ Tryz.prog 253 := ⟨by kernel_rfl⟩
instance : Xr Tryz.prog 253 [(0, 3), (1, 22), (2, 22), (3, 22), (4, 3)] := YD (by kernel_rfl)
instance : Yb Tryz.prog 253 0 0 3 := Ye
instance : Yb Tryz.prog 253 1 1 22 := Ye
instance : Yb Tryz.prog 253 2 2 22 := Ye
instance : Yb Tryz.prog 253 3 3 22 := Ye
instance : Yb Tryz.prog 253 4 4 3 := Ye
instance : ZF Tryz.prog 253 (([(0, 1), (1, 1), (2, 1), (3, 1), (4, 1)] : List (Nat × Nat))[·]?) := ZB (by kernel_rfl)
instance : TyS Tryz.prog 257 := tqS
instance : Zo Tryz.prog 257 false := tqI
instance : ZG Tryz.prog 257 1 := tqN
instance : Zn Tryz.prog 257 8 := tqB
instance : Zr Tryz.prog 257 (.pointer none) := tqO
instance : TyPtr Tryz.prog 257 259 := ⟨by kernel_rfl⟩
instance : TyA Tryz.prog 258 10 := tqA
instance : Zo Tryz.prog 258 false := tqI
instance : ZG Tryz.prog 258 10 := tqN
instance : Zn Tryz.prog 258 144 := tqB
instance : Zr Tryz.prog 258 (.agg ⟨[.int .i64 0, .int .u64 0, .int .i64 0, .int .u64 0, .int .u64 0, .slice none 0 0, .slice none 0 0, .int .i64 0, .slice none 0 0, .slice none 0 0]⟩) := tqO
instance : ZJ Tryz.prog 258 := ⟨by kernel_rfl⟩
instance : Yb Tryz.prog 258 0 0 34 := Ye
instance : ZF Tryz.prog 258 (([(0, 10)] : List (Nat × Nat))[·]?) := ZB (by kernel_rfl)
instance : TyA Tryz.prog 259 10 := tqA
instance : Zo Tryz.prog 259 false := tqI
instance : ZG Tryz.prog 259 10 := tqN
instance : Zn Tryz.prog 259 144 := tqB
instance : Zr Tryz.prog 259 (.agg ⟨[.int .i64 0, .int .u64 0, .int .i64 0, .int .u64 0, .int .u64 0, .slice none 0 0, .slice none 0 0, .int .i64 0, .slice none 0 0, .slice none 0 0]⟩) := tqO
instance : ZJ Tryz.prog 259 := ⟨by kernel_rfl⟩
instance : Xr Tryz.prog 259 [(0, 34)] := YD (by kernel_rfl)
instance : Yb Tryz.prog 259 0 0 34 := Ye
instance : ZF Tryz.prog 259 (([(0, 10)] : List (Nat × Nat))[·]?) := ZB (by kernel_rfl)
instance : TyS Tryz.prog 260 := tqS
instance : Zo Tryz.prog 260 false := tqI
instance : ZG Tryz.prog 260 1 := tqN
instance : Zn Tryz.prog 260 8 := tqB
instance : Zr Tryz.prog 260 (.map none) := tqO
instance : Va Tryz.prog 260 3 23 := ⟨by kernel_rfl⟩
instance : TyS Tryz.prog 261 := tqS
instance : Zo Tryz.prog 261 false := tqI
instance : ZG Tryz.prog 261 1 := tqN
instance : Zn Tryz.prog 261 8 := tqB
instance : Zr Tryz.prog 261 (.pointer none) := tqO
instance : TyPtr Tryz.prog 261 263 := ⟨by kernel_rfl⟩
instance : TyA Tryz.prog 262 11 := tqA
instance : Zo Tryz.prog 262 false := tqI
instance : ZG Tryz.prog 262 11 := tqN
instance : Zn Tryz.prog 262 168 := tqB
instance : Zr Tryz.prog 262 (.agg ⟨[.int .i64 0, .int .u64 0, .int .i64 0, .int .u64 0, .int .u64 0, .slice none 0 0, .slice none 0 0, .int .i64 0, .slice none 0 0, .slice none 0 0, .slice none 0 0]⟩) := tqO
instance : ZJ Tryz.prog 262 := ⟨by kernel_rfl⟩
instance : Yb Tryz.prog 262 0 0 34 := Ye
instance : Yb Tryz.prog 262 1 10 109 := Ye
instance : ZF Tryz.prog 262 (([(0, 10), (10, 1)] : List (Nat × Nat))[·]?) := ZB (by kernel_rfl)
instance : TyA Tryz.prog 263 11 := tqA
instance : Zo Tryz.prog 263 false := tqI
instance : ZG Tryz.prog 263 11 := tqN
instance : Zn Tryz.prog 263 168 := tqB
instance : Zr Tryz.prog 263 (.agg ⟨[.int .i64 0, .int .u64 0, .int .i64 0, .int .u64 0, .int .u64 0, .slice none 0 0, .slice none 0 0, .int .i64 0, .slice none 0 0, .slice none 0 0, .slice none 0 0]⟩) := tqO
instance : ZJ Tryz.prog 263 := ⟨by kernel_rfl⟩
instance : Xr Tryz.prog 263 [(0, 34), (10, 109)] := YD (by kernel_rfl)
instance : Yb Tryz.prog 263 0 0 34 := Ye
instance : Yb Tryz.prog 263 1 10 109 := Ye
instance : ZF Tryz.prog 263 (([(0, 10), (10, 1)] : List (Nat × Nat))[·]?) := ZB (by kernel_rfl)
instance : TyS Tryz.prog 274 := tqS
instance : Zo Tryz.prog 274 false := tqI
instance : Yv Tryz.prog 274 := tqF
instance : ZG Tryz.prog 274 1 := tqN
instance : Zn Tryz.prog 274 8 := tqB
instance : Zr Tryz.prog 274 (.nilFunc) := tqO
instance : TyS Tryz.prog 288 := tqS
instance : Zo Tryz.prog 288 false := tqI
instance : ZG Tryz.prog 288 1 := tqN
instance : Zn Tryz.prog 288 8 := tqB
instance : Zr Tryz.prog 288 (.pointer none) := tqO
instance : TyPtr Tryz.prog 288 3 := ⟨by kernel_rfl⟩
instance : TyS Tryz.prog 292 := tqS
instance : Zo Tryz.prog 292 false := tqI
instance : ZG Tryz.prog 292 1 := tqN
instance : Zn Tryz.prog 292 8 := tqB
instance : Zr Tryz.prog 292 (.pointer none) := tqO
instance : TyPtr Tryz.prog 292 330 := ⟨by kernel_rfl⟩
instance : TyS Tryz.prog 298 := tqS
instance : Zo Tryz.prog 298 false := tqI
instance : Yv Tryz.prog 298 := tqF
instance : ZG Tryz.prog 298 1 := tqN
instance : Zn Tryz.prog 298 8 := tqB
instance : Zr Tryz.prog 298 (.nilFunc) := tqO
instance : TyS Tryz.prog 301 := tqS
instance : Zo Tryz.prog 301 false := tqI
instance : Yv Tryz.prog 301 := tqF
instance : ZG Tryz.prog 301 1 := tqN
instance : Zn Tryz.prog 301 8 := tqB
instance : Zr Tryz.prog 301 (.nilFunc) := tqO
instance : TyS Tryz.prog 303 := tqS
instance : Zo Tryz.prog 303 false := tqI
instance : Yv Tryz.prog 303 := tqF
instance : ZG Tryz.prog 303 1 := tqN
instance : Zn Tryz.prog 303 8 := tqB
instance : Zr Tryz.prog 303 (.nilFunc) := tqO
instance : TyS Tryz.prog 304 := tqS
instance : Zo Tryz.prog 304 false := tqI
instance : Yv Tryz.prog 304 := tqF
instance : ZG Tryz.prog 304 1 := tqN
instance : Zn Tryz.prog 304 8 := tqB
instance : Zr Tryz.prog 304 (.nilFunc) := tqO
instance : TyS Tryz.prog 306 := tqS
instance : Zo Tryz.prog 306 false := tqI
instance : Yv Tryz.prog 306 := tqF
instance : ZG Tryz.prog 306 1 := tqN
instance : Zn Tryz.prog 306 8 := tqB
instance : Zr Tryz.prog 306 (.nilFunc) := tqO
instance : TyS Tryz.prog 307 := tqS
instance : Zo Tryz.prog 307 false := tqI
instance : Yv Tryz.prog 307 := tqF
instance : ZG Tryz.prog 307 1 := tqN
instance : Zn Tryz.prog 307 8 := tqB
instance : Zr Tryz.prog 307 (.nilFunc) := tqO
instance : TyS Tryz.prog 312 := tqS
instance : Zo Tryz.prog 312 false := tqI
instance : Yv Tryz.prog 312 := tqF
instance : ZG Tryz.prog 312 1 := tqN
instance : Zn Tryz.prog 312 8 := tqB
instance : Zr Tryz.prog 312 (.nilFunc) := tqO
instance : TyS Tryz.prog 314 := tqS
instance : Zo Tryz.prog 314 false := tqI
instance : Yv Tryz.prog 314 := tqF
instance : ZG Tryz.prog 314 1 := tqN
instance : Zn Tryz.prog 314 8 := tqB
instance : Zr Tryz.prog 314 (.nilFunc) := tqO
instance : TyS Tryz.prog 316 := tqS
instance : Zo Tryz.prog 316 false := tqI
instance : Yv Tryz.prog 316 := tqF
instance : ZG Tryz.prog 316 1 := tqN
instance : Zn Tryz.prog 316 8 := tqB
instance : Zr Tryz.prog 316 (.nilFunc) := tqO
instance : TyS Tryz.prog 317 := tqS
instance : Zo Tryz.prog 317 false := tqI
instance : Yv Tryz.prog 317 := tqF
instance : ZG Tryz.prog 317 1 := tqN
instance : Zn Tryz.prog 317 8 := tqB
instance : Zr Tryz.prog 317 (.nilFunc) := tqO
instance : TyA Tryz.prog 329 6 := tqA
instance : Zo Tryz.prog 329 false := tqI
instance : ZG Tryz.prog 329 6 := tqN
instance : Zn Tryz.prog 329 80 := tqB
instance : Zr Tryz.prog 329 (.agg ⟨[.pointer none, .int .i64 0, .bool false, .int .i64 0, .slice none 0 0, .slice none 0 0]⟩) := tqO
instance : ZJ Tryz.prog 329 := ⟨by kernel_rfl⟩
instance : Yb Tryz.prog 329 0 0 187 := Ye
instance : Yb Tryz.prog 329 1 1 3 := Ye
instance : Yb Tryz.prog 329 2 2 4 := Ye
instance : Yb Tryz.prog 329 3 3 65 := Ye
instance : ZF Tryz.prog 329 (([(0, 1), (1, 1), (2, 1), (3, 3)] : List (Nat × Nat))[·]?) := ZB (by kernel_rfl)
instance : TyA Tryz.prog 330 6 := tqA
instance : Zo Tryz.prog 330 false := tqI
instance : ZG Tryz.prog 330 6 := tqN
instance : Zn Tryz.prog 330 80 := tqB
instance : Zr Tryz.prog 330 (.agg ⟨[.pointer none, .int .i64 0, .bool false, .int .i64 0, .slice none 0 0, .slice none 0 0]⟩) := tqO
instance : ZJ Tryz.prog 330 := ⟨by kernel_rfl⟩
instance : Xr Tryz.prog 330 [(0, 187), (1, 3), (2, 4), (3, 65)] := YD (by kernel_rfl)
instance : Yb Tryz.prog 330 0 0 187 := Ye
instance : Yb Tryz.prog 330 1 1 3 := Ye
instance : Yb Tryz.prog 330 2 2 4 := Ye
instance : Yb Tryz.prog 330 3 3 65 := Ye
instance : ZF Tryz.prog 330 (([(0, 1), (1, 1), (2, 1), (3, 3)] : List (Nat × Nat))[·]?) := ZB (by kernel_rfl)
instance : TyS Tryz.prog 333 := tqS
instance : Zo Tryz.prog 333 false := tqI
instance : Yv Tryz.prog 333 := tqF
instance : ZG Tryz.prog 333 1 := tqN
instance : Zn Tryz.prog 333 8 := tqB
instance : Zr Tryz.prog 333 (.nilFunc) := tqO
instance : TyS Tryz.prog 334 := tqS
instance : Zo Tryz.prog 334 false := tqI
instance : Yv Tryz.prog 334 := tqF
instance : ZG Tryz.prog 334 1 := tqN
instance : Zn Tryz.prog 334 8 := tqB
instance : Zr Tryz.prog 334 (.nilFunc) := tqO
instance : TyS Tryz.prog 339 := tqS
instance : Zo Tryz.prog 339 false := tqI
instance : Yv Tryz.prog 339 := tqF
instance : ZG Tryz.prog 339 1 := tqN
instance : Zn Tryz.prog 339 8 := tqB
instance : Zr Tryz.prog 339 (.nilFunc) := tqO
instance : TyA Tryz.prog 342 16 := tqA
instance : Zo Tryz.prog 342 false := tqI
instance : ZG Tryz.prog 342 16 := tqN
instance : Zn Tryz.prog 342 64 := tqB
instance : Zr Tryz.prog 342 (.agg ⟨List.replicate 16 (.int .u32 0)⟩) := tqO
instance : ZJ Tryz.prog 342 := ⟨by kernel_rfl⟩
instance : WZ Tryz.prog 342 16 192 := ⟨by kernel_rfl⟩
instance : ZF Tryz.prog 342 (fun i => some (i * 1, 1)) := mkTyPlacesA (n := 16) (e := 192) (by kernel_rfl) (by kernel_rfl)
instance : TyS Tryz.prog 344 := tqS
instance : Zo Tryz.prog 344 false := tqI
instance : Yv Tryz.prog 344 := tqF
instance : ZG Tryz.prog 344 1 := tqN
instance : Zn Tryz.prog 344 8 := tqB
instance : Zr Tryz.prog 344 (.nilFunc) := tqO
instance : TyS Tryz.prog 354 := tqS
instance : Zo Tryz.prog 354 false := tqI
instance : Yv Tryz.prog 354 := tqF
instance : ZG Tryz.prog 354 1 := tqN
instance : Zn Tryz.prog 354 8 := tqB
instance : Zr Tryz.prog 354 (.nilFunc) := tqO
instance : TyS Tryz.prog 355 := tqS
instance : Zo Tryz.prog 355 false := tqI
instance : ZG Tryz.prog 355 1 := tqN
instance : Zn Tryz.prog 355 8 := tqB
instance : Zr Tryz.prog 355 (.pointer none) := tqO
instance : TyPtr Tryz.prog 355 5 := ⟨by kernel_rfl⟩
instance : TyA Tryz.prog 358 11 := tqA
instance : Zo Tryz.prog 358 false := tqI
instance : ZG Tryz.prog 358 11 := tqN
instance : Zn Tryz.prog 358 48 := tqB
instance : Zr Tryz.prog 358 (.agg ⟨[.int .u64 0, .int .u64 0, .int .u32 0, .int .u8 0, .int .u8 0, .int .u8 0, .int .u8 0, .nilFunc, .pointer none, .int .i32 0, .int .i32 0]⟩) := tqO
instance : ZJ Tryz.prog 358 := ⟨by kernel_rfl⟩
instance : Yb Tryz.prog 358 0 0 12 := Ye
instance : Yb Tryz.prog 358 1 1 12 := Ye
instance : Yb Tryz.prog 358 2 2 192 := Ye
instance : Yb Tryz.prog 358 3 3 352 := Ye
instance : Yb Tryz.prog 358 4 4 5 := Ye
instance : Yb Tryz.prog 358 5 5 5 := Ye
instance : Yb Tryz.prog 358 6 6 353 := Ye
instance : Yb Tryz.prog 358 7 7 354 := Ye
instance : Yb Tryz.prog 358 8 8 355 := Ye
instance : Yb Tryz.prog 358 9 9 356 := Ye
instance : Yb Tryz.prog 358 10 10 357 := Ye
instance : ZF Tryz.prog 358 (([(0, 1), (1, 1), (2, 1), (3, 1), (4, 1), (5, 1), (6, 1), (7, 1), (8, 1), (9, 1), (10, 1)] : List (Nat × Nat))[·]?) := ZB (by kernel_rfl)
instance : Yc Tryz.prog 5 := Yo
instance : Yc Tryz.prog 8 := Yo
instance : Yc Tryz.prog 10 := Yo
instance : Yc Tryz.prog 11 := Yo
instance : Yc Tryz.prog 12 := Yo
instance : Yc Tryz.prog 16 := Yo
instance : Yc Tryz.prog 17 := Yo
instance : Yc Tryz.prog 22 := Yo
instance : Yc Tryz.prog 23 := Yo
instance : Yc Tryz.prog 25 := Yo
instance : Yc Tryz.prog 26 := Yo
instance : Yc Tryz.prog 28 := Yo
instance : Yc Tryz.prog 29 := Yo
instance : Yc Tryz.prog 30 := Yo
instance : Yc Tryz.prog 31 := Yo
instance : Yc Tryz.prog 33 := Yo
instance : Yc Tryz.prog 34 := Yo
instance : Yc Tryz.prog 35 := Yo
instance : Yc Tryz.prog 36 := Yo
instance : Yc Tryz.prog 37 := Yo
instance : Yc Tryz.prog 44 := Yo
instance : Yc Tryz.prog 45 := Yo
instance : Yc Tryz.prog 52 := Yo
instance : Yc Tryz.prog 54 := Yo
instance : Yc Tryz.prog 55 := Yo
instance : Yc Tryz.prog 56 := Yo
instance : Yc Tryz.prog 57 := Yo
instance : Yc Tryz.prog 61 := Yo
instance : Yc Tryz.prog 62 := Yo
instance : Yc Tryz.prog 63 := Yo
instance : Yc Tryz.prog 64 := Yo
instance : Yc Tryz.prog 65 := Yo
instance : Yc Tryz.prog 66 := Yo
instance : Yc Tryz.prog 67 := Yo
instance : Yc Tryz.prog 68 := Yo
instance : Yc Tryz.prog 70 := Yo
instance : Yc Tryz.prog 71 := Yo
instance : Yc Tryz.prog 74 := Yo
instance : Yc Tryz.prog 75 := Yo
instance : Yc Tryz.prog 77 := Yo
instance : Yc Tryz.prog 84 := Yo
instance : Yc Tryz.prog 86 := Yo
instance : Yc Tryz.prog 87 := Yo
instance : Yc Tryz.prog 88 := Yo
instance : Yc Tryz.prog 89 := Yo
instance : Yc Tryz.prog 90 := Yo
instance : Yc Tryz.prog 91 := Yo
instance : Yc Tryz.prog 95 := Yo
instance : Yc Tryz.prog 96 := Yo
instance : Yc Tryz.prog 97 := Yo
instance : Yc Tryz.prog 98 := Yo
instance : Yc Tryz.prog 99 := Yo
instance : Yc Tryz.prog 106 := Yo
instance : Yc Tryz.prog 107 := Yo
instance : Yc Tryz.prog 108 := Yo
instance : Yc Tryz.prog 109 := Yo
instance : Yc Tryz.prog 110 := Yo
instance : Yc Tryz.prog 111 := Yo
instance : Yc Tryz.prog 112 := Yo
instance : Yc Tryz.prog 113 := Yo
instance : Yc Tryz.prog 114 := Yo
instance : Yc Tryz.prog 116 := Yo
instance : Yc Tryz.prog 117 := Yo
instance : Yc Tryz.prog 118 := Yo
instance : Yc Tryz.prog 119 := Yo
instance : Yc Tryz.prog 120 := Yo
instance : Yc Tryz.prog 121 := Yo
instance : Yc Tryz.prog 122 := Yo
instance : Yc Tryz.prog 123 := Yo
instance : Yc Tryz.prog 125 := Yo
instance : Yc Tryz.prog 132 := Yo
instance : Yc Tryz.prog 133 := Yo
instance : Yc Tryz.prog 134 := Yo
instance : Yc Tryz.prog 135 := Yo
instance : Yc Tryz.prog 136 := Yo
instance : Yc Tryz.prog 137 := Yo
instance : Yc Tryz.prog 138 := Yo
instance : Yc Tryz.prog 142 := Yo
instance : Yc Tryz.prog 143 := Yo
instance : Yc Tryz.prog 147 := Yo
instance : Yc Tryz.prog 152 := Yo
instance : Yc Tryz.prog 157 := Yo
instance : Yc Tryz.prog 158 := Yo
instance : Yc Tryz.prog 159 := Yo
instance : Yc Tryz.prog 160 := Yo
instance : Yc Tryz.prog 161 := Yo
instance : Yc Tryz.prog 162 := Yo
instance : Yc Tryz.prog 163 := Yo
instance : Yc Tryz.prog 164 := Yo
instance : Yc Tryz.prog 165 := Yo
instance : Yc Tryz.prog 166 := Yo
instance : Yc Tryz.prog 167 := Yo
instance : Yc Tryz.prog 168 := Yo
instance : Yc Tryz.prog 169 := Yo
instance : Yc Tryz.prog 170 := Yo
instance : Yc Tryz.prog 171 := Yo
instance : Yc Tryz.prog 172 := Yo
instance : Yc Tryz.prog 173 := Yo
instance : Yc Tryz.prog 174 := Yo
instance : Yc Tryz.prog 175 := Yo
instance : Yc Tryz.prog 176 := Yo
instance : Yc Tryz.prog 177 := Yo
instance : Yc Tryz.prog 178 := Yo
instance : Yc Tryz.prog 179 := Yo
instance : Yc Tryz.prog 180 := Yo
instance : Yc Tryz.prog 181 := Yo
instance : Yc Tryz.prog 182 := Yo
instance : Yc Tryz.prog 183 := Yo
instance : Yc Tryz.prog 191 := Yo
instance : Yc Tryz.prog 192 := Yo
instance : Yc Tryz.prog 193 := Yo
instance : Yc Tryz.prog 194 := Yo
instance : Yc Tryz.prog 195 := Yo
instance : Yc Tryz.prog 196 := Yo
instance : Yc Tryz.prog 197 := Yo
instance : Yc Tryz.prog 198 := Yo
instance : Yc Tryz.prog 200 := Yo
instance : Yc Tryz.prog 201 := Yo
instance : Yc Tryz.prog 202 := Yo
instance : Yc Tryz.prog 203 := Yo
instance : Yc Tryz.prog 204 := Yo
instance : Yc Tryz.prog 205 := Yo
instance : Yc Tryz.prog 207 := Yo
instance : Yc Tryz.prog 208 := Yo
instance : Yc Tryz.prog 209 := Yo
instance : Yc Tryz.prog 210 := Yo
instance : Yc Tryz.prog 211 := Yo
instance : Yc Tryz.prog 212 := Yo
instance : Yc Tryz.prog 213 := Yo
instance : Yc Tryz.prog 214 := Yo
instance : Yc Tryz.prog 215 := Yo
instance : Yc Tryz.prog 216 := Yo
instance : Yc Tryz.prog 217 := Yo
instance : Yc Tryz.prog 218 := Yo
instance : Yc Tryz.prog 219 := Yo
instance : Yc Tryz.prog 220 := Yo
instance : Yc Tryz.prog 221 := Yo
instance : Yc Tryz.prog 222 := Yo
instance : Yc Tryz.prog 223 := Yo
instance : Yc Tryz.prog 224 := Yo
instance : Yc Tryz.prog 225 := Yo
instance : Yc Tryz.prog 226 := Yo
instance : Yc Tryz.prog 227 := Yo
instance : Yc Tryz.prog 228 := Yo
instance : Yc Tryz.prog 229 := Yo
instance : Yc Tryz.prog 230 := Yo
instance : Yc Tryz.prog 231 := Yo
instance : Yc Tryz.prog 232 := Yo
instance : Yc Tryz.prog 233 := Yo
instance : Yc Tryz.prog 243 := Yo
instance : Yc Tryz.prog 244 := Yo
instance : Yc Tryz.prog 245 := Yo
instance : Yc Tryz.prog 246 := Yo
instance : Yc Tryz.prog 247 := Yo
instance : Yc Tryz.prog 248 := Yo
instance : Yc Tryz.prog 249 := Yo
instance : Yc Tryz.prog 250 := Yo
instance : Yc Tryz.prog 251 := Yo
instance : Yc Tryz.prog 252 := Yo
instance : Yc Tryz.prog 253 := Yo
instance : Yc Tryz.prog 256 := Yo
instance : Yc Tryz.prog 257 := Yo
instance : Yc Tryz.prog 258 := Yo
instance : Yc Tryz.prog 259 := Yo
instance : Yc Tryz.prog 260 := Yo
instance : Yc Tryz.prog 261 := Yo
instance : Yc Tryz.prog 262 := Yo
instance : Yc Tryz.prog 263 := Yo
instance : Yc Tryz.prog 264 := Yo
instance : Yc Tryz.prog 265 := Yo
instance : Mixed Tryz.prog := ⟨by kernel_rfl⟩
end Go.Proofs.E
namespace Go.Proofs.E
open Go
set_option linter.unusedVariables false
set_option linter.unusedSimpArgs false
set_option linter.unusedSectionVars false
set_option maxRecDepth 4000
set_option maxHeartbeats 1000000
attribute [local irreducible] Yl TL TC TE Spec XZ R1 Hp.le EnvLe TS TR YS Zq
def be : Nat → Nat → List UInt8
 | 0, _ => []
 | n + 1, x => UInt8.ofNat (x / 256 ^ n) :: be n x
def Yq (l : List UInt8) : Nat := l.foldl (fun a b => a * 256 + b.toNat) 0
theorem Zs (n x : Nat) : (be n x).length = n := by induction n <;> simp [be, *]
theorem foldl_be (l : List UInt8) (a : Nat) : l.foldl (fun a b => a * 256 + b.toNat) a = a * 256 ^ l.length + Yq l := by
 unfold Yq
 induction l generalizing a with
 | nil => simp
 | cons b l ih =>
  simp only [List.foldl_cons, List.length_cons]
  rw [ih (a * 256 + b.toNat), ih (0 * 256 + b.toNat)]
  rw [Nat.pow_succ]
  simp only [Nat.zero_mul, Nat.zero_add, Nat.add_mul, Nat.mul_assoc, Nat.mul_comm 256, Nat.add_assoc]
theorem unbe_cons (b : UInt8) (l : List UInt8) : Yq (b :: l) = b.toNat * 256 ^ l.length + Yq l := by
 have := foldl_be l (0 * 256 + b.toNat)
 simp only [Nat.zero_mul, Nat.zero_add] at this
 rw [← this]; simp [Yq]
theorem unbe_snoc (b : UInt8) (l : List UInt8) : Yq (l ++ [b]) = Yq l * 256 + b.toNat := by simp [Yq]
theorem unbe_lt (l : List UInt8) : Yq l < 256 ^ l.length := by
 induction l with
 | nil => simp [Yq]
 | cons b l ih =>
  rw [unbe_cons, List.length_cons, Nat.pow_succ]
  have hb : b.toNat < 256 := b.toNat_lt
  have : (b.toNat + 1) * 256 ^ l.length ≤ 256 * 256 ^ l.length := Nat.mul_le_mul_right _ (by omega)
  rw [Nat.add_mul] at this
  omega
theorem WG (n x : Nat) : Yq (be n x) = x % 256 ^ n := by
 induction n with
 | zero => simp [be, Yq, Nat.mod_one]
 | succ n ih =>
  rw [be, unbe_cons, Zs, ih, UInt8.toNat_ofNat']
  have h1 := Nat.mod_mul (x := x) (a := 256 ^ n) (b := 256)
  have e : 256 ^ (n + 1) = 256 ^ n * 256 := by rw [Nat.pow_succ]
  have e2 : (2 : Nat) ^ 8 = 256 := by decide
  rw [e, h1, e2, Nat.mul_comm]
  omega
theorem be_mod (n x : Nat) : be n (x % 256 ^ n) = be n x := by
 have key : ∀ m, m ≤ n → be m (x % 256 ^ n) = be m x := by
  intro m
  induction m with
  | zero => intro _; rfl
  | succ m ih =>
   intro hm
   rw [be, be, ih (by omega)]
   congr 1
   apply UInt8.toNat_inj.1
   simp only [UInt8.toNat_ofNat']
   obtain ⟨k, rfl⟩ : ∃ k, n = m + 1 + k := ⟨n - (m + 1), by omega⟩
   have e : 256 ^ (m + 1 + k) = 256 ^ m * (256 * 256 ^ k) := by rw [Nat.pow_add, Nat.pow_succ, Nat.mul_assoc]
   rw [e, Nat.mod_mul_right_div_self, Nat.mod_mul_right_mod]
 exact key n (Nat.le_refl _)
theorem be_unbe (l : List UInt8) : be l.length (Yq l) = l := by
 induction l with
 | nil => rfl
 | cons b l ih =>
  rw [List.length_cons, be, unbe_cons]
  have hlt := unbe_lt l
  have hp : 0 < 256 ^ l.length := Nat.pow_pos (by decide)
  have h1 : (b.toNat * 256 ^ l.length + Yq l) / 256 ^ l.length = b.toNat := by
   rw [Nat.mul_comm, Nat.mul_add_div hp, Nat.div_eq_of_lt hlt]; simp
  have h2 : be l.length (b.toNat * 256 ^ l.length + Yq l) = l := by
   rw [← be_mod, Nat.mul_comm, Nat.mul_add_mod, Nat.mod_eq_of_lt hlt, ih]
  rw [h1, h2]; simp
end Go.Proofs.E
