/- The law LogRoom. Part 4 of 16. -/
import Derived.Test.YtopfmlbnibfcgaaGreatA3
import Derived.Test.YtopfmlbnibfcgaaGreatChecked
import Derived.KernelRfl
namespace Go.Proofs.E
open Go
set_option linter.unusedVariables false
set_option linter.unusedSimpArgs false
def UKeys (es : List MapEntry) : Prop := es.Pairwise (fun a b => a.key ≠ b.key)
theorem UKeys.add {es : List MapEntry} {x : MapEntry} (h : UKeys es) (hx : ∀ e ∈ es, ¬ e.key = x.key) : UKeys (es ++ [x]) := by
 unfold UKeys
 rw [List.pairwise_append]
 exact ⟨h, List.pairwise_singleton _ _, fun a ha b hb => by rw [List.mem_singleton.1 hb]; exact hx a ha⟩
section
variable {x : Cx} {Q : Exit → Act → World → Prop} {E : Env} {ρ ρ0 : Hp} {L : SH} {ops : Array Oper} {rest : List Oper} {ty : TypeId} {pos : String} {af : Array Edge}
end
def IterP (P : Program) (g : FuncId) (fs cs : List Value) {α : Type} (enc : α → List Value) (ρ0 : Hp) (S : SH) (C : List (Nat × Obj)) (xs : List α) : Prop :=
 ∀ (l : Nat) (J : List α → Hp → SH → Prop) (Jx : Hp → SH → Prop), (∀ ρ Lj, J [] ρ Lj → ∃ A B, Lj = A ++ C :: B) →
  (∀ pre y ρ Lj, (pre ++ [y]) <+: xs → ρ0.le ρ → J pre ρ Lj → ZN P l (enc y) ρ (S ++ Lj) (YP S (J (pre ++ [y])) Jx)) →
  ∀ ρ Lj, ρ0.le ρ → J [] ρ Lj → Spec P g (fs ++ [.func (.yield l) ⟨[]⟩ ⟨[]⟩] ++ cs) ρ (S ++ Lj) (fun v ρ' L' => ∃ Lj', L' = S ++ Lj' ∧ (J xs ρ' Lj' ∨ Jx ρ' Lj'))
section
variable {x : Cx} {Q : Exit → Act → World → Prop} {E : Env} {ρ ρ0 : Hp} {L : SH} {l : Nat} {r : Loop}
theorem tc_rangeFuncP {fo : Operand} {ps : List Nat} {assign body : Code} {g : Nat} {fs cs : List Value} {α : Type} {enc : α → List Value} {S L0 R0 R : SH} {xs : List α} {C : List (Nat × Obj)} (hro : x.ro = none)
  (hf : ev E fo = some (.func (.func g) ⟨fs⟩ ⟨cs⟩)) [hF : ZK x.P g] (hI : IterP x.P g fs cs enc ρ0 S C xs) (hle : ρ0.le ρ) (hps : ∀ y, (enc y).length = ps.length) (hpN : ps.all (fun p => Nat.blt p x.N) = true)
  (J : List α → Hp → SH → Prop) (Jx : Code → Hp → SH → Prop) (k1 : YJ L S R0) (k2 : YJ R0 L0 R) (h0 : J [] ρ L0) (hC : ∀ ρ Lu, J [] ρ Lu → ∃ A B, Lu = A ++ C :: B)
  (hround : ∀ l tm r pre y ρ' Lu u R', (pre ++ [y]) <+: xs → ρ0.le ρ' → J pre ρ' Lu → r.state = .ready → Rec tm ⟨ps⟩ assign body r →
   TC ⟨some l, x.P, u, [], x.N⟩ assign (Exit.then (KB x.P l body (RQ x.P u ρ' R' l (YP S (JH l (Rec tm ⟨ps⟩ assign body) (J (pre ++ [y]))) (XH l (Rec tm ⟨ps⟩ assign body) Jx)))) QF)
    (envP ps (enc y) E) ρ' ([(l, .loop r)] :: (S ++ (Lu ++ R'))))
  (hdone : ∀ D0 ρ' Lu, ρ.le ρ' → J xs ρ' Lu → TE { x with D := [{ target := .collected D0, args := #[] }] ++ x.D } .normal Q E ρ' ([(D0, .deferred (some []))] :: (S ++ (Lu ++ R))))
  (hstop : ∀ D0 c ρ' Lu, ρ.le ρ' → Jx c ρ' Lu → TC { x with D := [{ target := .collected D0, args := #[] }] ++ x.D } c Q E ρ' ([(D0, .deferred (some []))] :: (S ++ (Lu ++ R)))) :
  TC x (.rangeFunc fo ⟨ps⟩ assign body) Q E ρ L := fun a w ha hw => by
 obtain ⟨ro, P, u, D, N⟩ := x
 simp only at hro; subst hro
 dsimp only at *
 refine wpIn_rangeFunc fun fn _ => ?_
 have hw0 : Sat u ρ (S ++ (L0 ++ R)) w := hw.perm (by
  refine k1.out.trans ?_
  simp only [List.flatten_append]
  exact List.Perm.append_left _ (by simpa using k2.out))
 have hw1 := hw0.new (.deferred (some []))
 generalize hr0 : ({ state := .ready, pending := none, fn, tmps := a.tmps, params := ⟨ps⟩, assign, body, defers := w.heap.size } : Loop) = r0
 have hw2 := hw1.new (.loop r0)
 have hsz : ({ w with heap := w.heap.push (.deferred (some [])) } : World).heap.size = w.heap.size + 1 := by simp
 rw [hsz] at hw2
 have hrec0 : Rec a.tmps ⟨ps⟩ assign body r0 := by subst hr0; exact ⟨rfl, rfl, rfl, rfl⟩
 have hst0 : r0.state = .ready ∧ r0.pending = none := by subst hr0; exact ⟨rfl, rfl⟩
 have henter := run_enterLoop_outer (P := P) (w := w) fn a.tmps ⟨ps⟩ assign body
 rw [hr0] at henter
 have hres : (resolve a.eval (rangeCall fo (w.heap.size + 1)) 0).run P ((w.alloc (.deferred (some []))).alloc (.loop r0)) =
   .ok { target := .fn (.func g) ⟨cs⟩, args := ⟨fs ++ [.func (.yield (w.heap.size + 1)) ⟨[]⟩ ⟨[]⟩]⟩ } ((w.alloc (.deferred (some []))).alloc (.loop r0)) := by
  simp only [resolve, ha.eval hf, Deferred.ofValue, Sem.run_pure]
  simp [Act.eval]
 refine ⟨w.heap.size + 1, _, _, _, _, g, ⟨fs ++ [.func (.yield (w.heap.size + 1)) ⟨[]⟩ ⟨[]⟩] ++ cs⟩, (w.alloc (.deferred (some []))).alloc (.loop r0), henter, hres, fun _ _ => trivial, ?_, fun h => by simp [Fw, Fence.wide] at h, ?_⟩
 ·simp only [invoke]
  have := run_callFunc hF (⟨fs ++ [.func (.yield (w.heap.size + 1)) ⟨[]⟩ ⟨[]⟩]⟩ ++ ⟨cs⟩) ((w.alloc (.deferred (some []))).alloc (.loop r0))
  simpa using this
 generalize hl : w.heap.size + 1 = l at *
 generalize hD0 : w.heap.size = D0 at *
 have hy : ∀ pre y ρ' Lj, (pre ++ [y]) <+: xs → ρ0.le ρ' → JH l (Rec a.tmps ⟨ps⟩ assign body) (J pre) ρ' Lj → ZN P l (enc y) ρ' (S ++ Lj) (YP S (JH l (Rec a.tmps ⟨ps⟩ assign body) (J (pre ++ [y]))) (XH l (Rec a.tmps ⟨ps⟩ assign body) Jx)) := by
  intro pre y ρ' Lj hpre hle' hJ
  obtain ⟨r, Lu, rfl, hrs, hrp, hrr, hJu⟩ := hJ
  intro u' R' w' hw'
  have hlr := hw'.here (l, .loop r) (by simp)
  have hargs : (⟨enc y⟩ : Array Value).size = r.params.size := by rw [hrr.params]; simpa using hps y
  refine ⟨_, _, _, _, run_yield hlr hargs, ?_⟩
  have hround' := hround l a.tmps r pre y ρ' Lu u' R' hpre hle' hJu hrs hrr
  have hsat : Sat u' ρ' ([(l, .loop r)] :: (S ++ (Lu ++ R'))) w' := hw'.perm (by simp)
  have hok : Ok [] N (envP ps (enc y) E) { tmps := (r.params.zip ⟨enc y⟩).foldl (fun tmps (t, a) => tmps.setIfInBounds t a) r.tmps, defers := [] } := by
   have h1 : Ok [] N E { tmps := a.tmps, defers := [] } := ⟨rfl, ha.size, ha.get⟩
   have := Ok.putP ps (enc y) E a.tmps hpN h1
   rw [hrr.params, hrr.tmps]
   have e : ((⟨ps⟩ : Array Nat).zip ⟨enc y⟩) = ⟨ps.zip (enc y)⟩ := by simp
   rw [e]
   simpa using this
  have hwp := hround' _ w' hok hsat
  rw [hrr.assign, hrr.body]
  refine roundIn_of_wpIn (F := Fw none) (n := 0) trivial ?_
  exact hwp
 have hspec := hI l (fun pre => JH l (Rec a.tmps ⟨ps⟩ assign body) (J pre)) (XH l (Rec a.tmps ⟨ps⟩ assign body) Jx) (fun ρ Lj ⟨r, Lu, e1, _, _, _, e5⟩ => by
  obtain ⟨A, B, rfl⟩ := hC _ _ e5
  exact ⟨[(l, .loop r)] :: A, B, by rw [e1]; rfl⟩) hy ρ ([(l, .loop r0)] :: L0) hle ⟨r0, L0, rfl, hst0.1, hst0.2, hrec0, h0⟩
 have hcall := hspec u ([(D0, .deferred (some []))] :: R) ((w.alloc (.deferred (some []))).alloc (.loop r0)) (hw2.perm (by
  simp only [List.flatten_cons, List.flatten_append, List.append_assoc, List.cons_append, List.singleton_append, List.nil_append]
  refine List.Perm.trans (l₂ := S.flatten ++ ((l, .loop r0) :: (D0, .deferred (some [])) :: (L0.flatten ++ R.flatten))) ?_ ?_
  ·refine List.Perm.trans ?_ List.perm_middle.symm
   refine List.Perm.cons _ ?_
   exact List.perm_middle.symm
  ·refine List.Perm.append_left _ (List.Perm.cons _ ?_)
   exact List.perm_middle.symm))
 refine calls_ro (CallsIn.mono hcall ?_)
 rintro e w3 ⟨v, ρ', L', rfl, hle', hsat, Lj', rfl, hor⟩
 have perm4 : ∀ (c : List (Nat × Obj)) (Lu : SH), (S ++ (c :: Lu) ++ ([(D0, .deferred (some []))] :: R)).flatten.Perm (c :: ([(D0, .deferred (some []))] :: (S ++ (Lu ++ R)))).flatten := fun c Lu => by
  simp only [List.flatten_cons, List.flatten_append, List.append_assoc, List.cons_append, List.singleton_append, List.nil_append]
  refine List.Perm.trans ?_ (List.Perm.append_left c (List.perm_middle (l₁ := S.flatten ++ Lu.flatten) (a := (D0, .deferred (some []))) (l₂ := R.flatten) |>.trans (by simp)))
  rw [← List.append_assoc, ← List.append_assoc c]
  refine List.Perm.trans (List.Perm.append_right _ List.perm_append_comm) ?_
  simp only [List.append_assoc]
  exact List.Perm.refl _
 rcases hor with ⟨r, Lu, rfl, hrs, hrp, hrr, hJu⟩ | ⟨r, Lu, c, rfl, hrs, hrp, hrr, hJu⟩
 ·have hs1 := hsat.perm (perm4 [(l, .loop r)] Lu)
  have hlr := hs1.here (l, .loop r) (by simp)
  refine ⟨r.pending, _, run_endLoop hlr (by rw [hrs]; simp), ?_⟩
  rw [hrp]
  have hs2 := (hs1.put (.loop { r with state := .exhausted, pending := none })).sub (L' := [(D0, .deferred (some []))] :: (S ++ (Lu ++ R))) (by simp)
  exact hdone D0 ρ' Lu hle' hJu _ _ ⟨by simp [ha.defers], ha.size, ha.get⟩ hs2
 ·have hs1 := hsat.perm (perm4 [(l, .loop r)] Lu)
  have hlr := hs1.here (l, .loop r) (by simp)
  refine ⟨r.pending, _, run_endLoop hlr (by rw [hrs]; simp), ?_⟩
  rw [hrp]
  have hs2 := (hs1.put (.loop { r with state := .exhausted, pending := some c })).sub (L' := [(D0, .deferred (some []))] :: (S ++ (Lu ++ R))) (by simp)
  exact hstop D0 c ρ' Lu hle' hJu _ _ ⟨by simp [ha.defers], ha.size, ha.get⟩ hs2
end
end Go.Proofs.E
namespace Go.Proofs.E
open Go
set_option linter.unusedVariables false
set_option linter.unusedSimpArgs false
attribute [local irreducible] Yl TL TC TE Spec ZN R1 Hp.le EnvLe TS TR YS Zp
inductive Pl | o | f (ns : List Nat) (t : Pl) | e (n : Nat) (ns : List Nat) (t : Pl) | b (i j : Nat) (ns ms : List Nat) (s t : Pl) | c (i j k : Nat) (ns ms os : List Nat) (s t u : Pl)
def TP (ns : List Nat) (t : Pl) (G : Prop) : Prop := G
def QP (ns : List Nat) (t : Pl) (q : Exit → Act → World → Prop) : Exit → Act → World → Prop := q
section
variable {x : Cx} {Q : Exit → Act → World → Prop} {E : Env} {ρ ρ0 : Hp} {L Ls : SH} {ops : Array Oper} {rest : List Oper} {ty : TypeId} {pos : String} {af : Array Edge} {d : Nat} {v : Value} {dd : Option Nat} {gd : Nat × Bool} {op : Op} {l : List Oper} {listed : List Bool} {fuel : Nat} {tail : List Oper} {n : Nat} {ns : List Nat} {t : Pl}
theorem qR {d g : Nat} {f : Operand} {xs : List Operand} {ats : Array TypeId} {fs cs vs : List Value} {Lf Lg R : SH} {w : Value} {ρ1 : Hp} (hf : ev E f = some (.func (.func g) ⟨fs⟩ ⟨cs⟩)) (hv : evs E xs = some vs) [hF : ZK x.P g]
  (S : Spec x.P g (fs ++ vs ++ cs) ρ Lf (fun v ρ' L' => v = w ∧ ρ' = ρ1 ∧ L' = Lg)) (k : TL x ops rest Q ((d, w) :: E) ρ1 (Lg ++ R)) (hT : YJ L Lf R := by exact tk) (hd : Nat.blt d x.N = true := by rfl) :
  TL x ops (⟨some d, .call { callee := .value f, args := ⟨xs⟩, argTypes := ats }, ty, pos, af, none⟩ :: rest) Q E ρ L := qC hf hv S (fun _ _ _ _ h => by obtain ⟨rfl, rfl, rfl⟩ := h; exact k) hT hd
theorem iT {P : Prop} (h : TP ns t P) : TP ns t P := h
theorem iQ {P : Prop} (h : TP (n :: ns) t P) : TP (n :: ns) t P := h
theorem iF {P : Prop} (h : TP [] (.f ns t) P) : TP [] (.f ns t) P := h
theorem iD {P : Prop} (h : TP [] .o P) : TP [] .o P := h
theorem iE {P : Prop} (h : TP [] (.e n ns t) P) : TP [] (.e n ns t) P := h
theorem iB {P : Prop} {i j : Nat} {ms : List Nat} {s : Pl} (h : TP [] (.b i j ns ms s t) P) : TP [] (.b i j ns ms s t) P := h
theorem iC {P : Prop} {i j k : Nat} {ms os : List Nat} {s u : Pl} (h : TP [] (.c i j k ns ms os s t u) P) : TP [] (.c i j k ns ms os s t u) P := h
theorem tpA (ns : List Nat) (t : Pl) (Ls : SH) {id : Nat} {R : SH} [hm : Mixed x.P] (h : TP ns t (TR x l (Zp x ρ Ls) l.length (List.replicate l.length false) Q E ρ L)) (hT : YJ L Ls R := by exact tk) : TC x (.region id l.toArray true) Q E ρ L := tc_any (Zp x ρ Ls) (WD (hT := hT) (Hp.le_refl _)) h
theorem tpZ (ns : List Nat) (t : Pl) {id : Nat} [hm : Mixed x.P] (h : TP ns t (TR x l (Zp x ρ L) l.length (List.replicate l.length false) Q E ρ L)) : TC x (.region id l.toArray true) Q E ρ L := tc_any (Zp x ρ L) stays_refl h
theorem rQ (k : TP ns t (TR x l (Zp x ρ0 Ls) fuel (XQ listed n) Q ((d, v) :: E) ρ L)) (hi : l[n]? = some ⟨some d, op, ty, pos, af, none⟩ := by rfl) (hb : Ws l listed n = true := by decide +kernel) (y : ∀ ρ', ρ0.le ρ' → Yl x op ty E ρ' Ls v := by intro _ _; exact yD) (hd : Nat.blt d x.N = true := by rfl) : TP (n :: ns) t (TR x l (Zp x ρ0 Ls) (fuel + 1) listed Q E ρ L) := tr_take n hb hi (ys_of' (fun _ h => h) y) hd k
theorem rW {j t0 : Nat} {b0 : Bool} (k : TP ns t (TR x l (Zp x ρ0 Ls) fuel (XQ listed n) Q ((d, v) :: E) ρ L)) (hi : l[n]? = some ⟨some d, op, ty, pos, af, some (j, b0)⟩ := by rfl) (hj : (l[j]?).bind (·.dst) = some t0 := by rfl) (he : lk E t0 = some (.bool b0) := by rfl) (hb : Ws l listed n = true := by decide +kernel) (y : ∀ ρ', ρ0.le ρ' → Yl x op ty E ρ' Ls v := by intro _ _; exact yD) (hd : Nat.blt d x.N = true := by rfl) : TP (n :: ns) t (TR x l (Zp x ρ0 Ls) (fuel + 1) listed Q E ρ L) := tr_want n hb hi hj he (ys_of' (fun _ h => h) y) hd k
theorem rK {j t0 : Nat} {b c : Bool} (k : TP ns t (TR x l (Zp x ρ0 Ls) fuel (XQ listed n) Q ((d, undef) :: E) ρ L)) (hi : l[n]? = some ⟨some d, op, ty, pos, af, some (j, c)⟩ := by rfl) (hj : (l[j]?).bind (·.dst) = some t0 := by rfl) (he : lk E t0 = some (.bool b) := by rfl) (hbc : (b == c) = false := by rfl) (hb : Ws l listed n = true := by decide +kernel) (hd : Nat.blt d x.N = true := by rfl) : TP (n :: ns) t (TR x l (Zp x ρ0 Ls) (fuel + 1) listed Q E ρ L) := tr_skip n hb hi hj he hbc hd k
theorem rU {j t0 : Nat} {c : Bool} (k : TP ns t (TR x l (Zp x ρ0 Ls) fuel (XQ listed n) Q ((d, undef) :: E) ρ L)) (hi : l[n]? = some ⟨some d, op, ty, pos, af, some (j, c)⟩ := by rfl) (hj : (l[j]?).bind (·.dst) = some t0 := by rfl) (he : lk E t0 = some undef := by rfl) (hb : Ws l listed n = true := by decide +kernel) (hd : Nat.blt d x.N = true := by rfl) : TP (n :: ns) t (TR x l (Zp x ρ0 Ls) (fuel + 1) listed Q E ρ L) := tr_undef n hb hi (fun a ha => yl_undef ha (by simpa using hj) he) hd k
theorem rKe {j t0 : Nat} {b c : Bool} (k : TP ns t (TR x l (Zp x ρ0 Ls) fuel (XQ listed n) Q ((d, undef) :: E) ρ L)) (hi : l[n]? = some ⟨some d, op, ty, pos, af, some (j, c)⟩ := by rfl) (hj : (l[j]?).bind (·.dst) = some t0 := by rfl) (he : lk E t0 = some (.bool b) := by rfl) (hbc : (b == c) = false := by rfl) (hb : Ws l listed n = true := by decide +kernel) (hd : Nat.blt d x.N = true := by rfl) : TP [] (.e n ns t) (TR x l (Zp x ρ0 Ls) (fuel + 1) listed Q E ρ L) := tr_skip n hb hi hj he hbc hd k
theorem rUe {j t0 : Nat} {c : Bool} (k : TP ns t (TR x l (Zp x ρ0 Ls) fuel (XQ listed n) Q ((d, undef) :: E) ρ L)) (hi : l[n]? = some ⟨some d, op, ty, pos, af, some (j, c)⟩ := by rfl) (hj : (l[j]?).bind (·.dst) = some t0 := by rfl) (he : lk E t0 = some undef := by rfl) (hb : Ws l listed n = true := by decide +kernel) (hd : Nat.blt d x.N = true := by rfl) : TP [] (.e n ns t) (TR x l (Zp x ρ0 Ls) (fuel + 1) listed Q E ρ L) := tr_undef n hb hi (fun a ha => yl_undef ha (by simpa using hj) he) hd k
theorem rG {S : World → Prop} {j t0 : Nat} {b c : Bool} (h1 : b = true → TP (n :: ns) t (TR x l S fuel listed Q ((t0, .bool true) :: E) ρ L)) (h2 : b = false → TP (n :: ns) t (TR x l S fuel listed Q ((t0, .bool false) :: E) ρ L)) (hi : l[n]? = some ⟨dd, op, ty, pos, af, some (j, c)⟩ := by rfl) (hj : (l[j]?).bind (·.dst) = some t0 := by rfl) (he : lk E t0 = some (.bool b) := by rfl) :
  TP (n :: ns) t (TR x l S fuel listed Q E ρ L) := tr_guard he h1 h2
theorem rF {R : SH} (h : TP ns t (TR x l (Zp x ρ L) fuel listed Q E ρ L)) (hle : ρ0.le ρ := by first | assumption | exact Hp.le_refl _ | (refine Hp.le_trans ?_ (by assumption); assumption) | solve_by_elim (maxDepth := 6) [Hp.le_trans]) (hT : YJ L Ls R := by exact tk) : TP [] (.f ns t) (TR x l (Zp x ρ0 Ls) fuel listed Q E ρ L) := tr_full hle hT h
theorem rD {S : World → Prop} (h : TE x .normal Q E ρ L) (hr : Region.ready .any l.toArray ⟨listed⟩ = [] := by decide +kernel) : TP [] .o (TR x l S fuel listed Q E ρ L) := tr_done hr h
theorem rA {G P : Prop} (k : G) (h : G → TP ns t P := by
   intro k
   first
   | (refine iQ ?_; first | exact rQ k | exact rW k | exact rK k | exact rU k)
   | (refine iF ?_; exact rF k)
   | (refine iD ?_; exact rD k)
   | (refine iE ?_; first | exact rKe k | exact rUe k)) : TP ns t P := h k
theorem rAb {G P : Prop} (k : G) (h : G → TP ns t P := by
   intro k
   first
   | (refine iQ ?_; first | exact rQ k (y := by intro _ _; exact y_buildN rfl) | exact rQ k | exact rW k | exact rK k | exact rU k)
   | (refine iF ?_; exact rF k)
   | (refine iD ?_; exact rD k)
   | (refine iE ?_; first | exact rKe k | exact rUe k)) : TP ns t P := h k
theorem rE {o : Oper} (h : TL x l.toArray [o] (QP ns t (QR x l (Zp x ρ0 Ls) fuel (XQ listed n) Q)) E ρ L) (ho : l[n]? = some o := by rfl) (hr : Region.ready .any l.toArray ⟨listed⟩ = [n] := by decide +kernel) : TP [] (.e n ns t) (TR x l (Zp x ρ0 Ls) (fuel + 1) listed Q E ρ L) := tr_step1 hr ho h
theorem rB {i j : Nat} {ms : List Nat} {s : Pl} {o p : Oper} (h : TL x l.toArray [o] (QP ns s (QR x l (Zp x ρ0 Ls) fuel (XQ listed i) Q)) E ρ L) (h' : TL x l.toArray [p] (QP ms t (QR x l (Zp x ρ0 Ls) fuel (XQ listed j) Q)) E ρ L) (hr : Region.ready .any l.toArray ⟨listed⟩ = [i, j] := by decide +kernel) (ho : l[i]? = some o := by rfl) (hp : l[j]? = some p := by rfl) :
  TP [] (.b i j ns ms s t) (TR x l (Zp x ρ0 Ls) (fuel + 1) listed Q E ρ L) := tr_step2 hr ho hp h h'
theorem rC {i j k : Nat} {ms os : List Nat} {s u : Pl} {o p q : Oper} (h : TL x l.toArray [o] (QP ns s (QR x l (Zp x ρ0 Ls) fuel (XQ listed i) Q)) E ρ L) (h' : TL x l.toArray [p] (QP ms t (QR x l (Zp x ρ0 Ls) fuel (XQ listed j) Q)) E ρ L) (h'' : TL x l.toArray [q] (QP os u (QR x l (Zp x ρ0 Ls) fuel (XQ listed k) Q)) E ρ L) (hr : Region.ready .any l.toArray ⟨listed⟩ = [i, j, k] := by decide +kernel) (ho : l[i]? = some o := by rfl) (hp : l[j]? = some p := by rfl) (hq : l[k]? = some q := by rfl) :
  TP [] (.c i j k ns ms os s t u) (TR x l (Zp x ρ0 Ls) (fuel + 1) listed Q E ρ L) := rStep3 h h' h'' hr ho hp hq
theorem rN {R : SH} (h : TP ns t (TR x l (Zp x ρ0 Ls) fuel listed Q E ρ L)) (hle : ρ0.le ρ := by first | assumption | exact Hp.le_refl _ | (refine Hp.le_trans ?_ (by assumption); assumption) | solve_by_elim (maxDepth := 6) [Hp.le_trans]) (hT : YJ L Ls R := by exact tk) : TE x .normal (QP ns t (QR x l (Zp x ρ0 Ls) fuel listed Q)) E ρ L := te_any (WD hle (hT := hT)) h
end
theorem kA {α : Type _} : (∀ (a : α) (s t : List α), (a :: s) ++ t = a :: (s ++ t)) ∧ (∀ s : List α, [] ++ s = s) ∧ (∀ s t : List α, List.append s t = s ++ t) := ⟨fun _ _ _ => rfl, fun _ => rfl, fun _ _ => rfl⟩
end Go.Proofs.E
namespace Go.Proofs.E
open Go Go.Proofs.E
set_option linter.unusedVariables false
theorem tqI {t : TypeId} {b : Bool} (h : (Tryz.prog.underlying t).map isIfaceD = some b := by kernel_rfl) : Ze Tryz.prog t b := mkTyIface h
theorem tqS {t : TypeId} (h : (Tryz.prog.underlying t).map isAggD = some false := by kernel_rfl) (k : (Tryz.prog.info? t).map (·.size) = some 1 := by kernel_rfl) : TyS Tryz.prog t := mkTyS h k
theorem tqA {t : TypeId} {n : Nat} (h : (Tryz.prog.underlying t).map isAggD = some true := by kernel_rfl) (k : (Tryz.prog.info? t).map (·.size) = some n := by kernel_rfl) : TyA Tryz.prog t n := mkTyA h k
theorem tqN {t : TypeId} {n : Nat} (k : (Tryz.prog.info? t).map (·.size) = some n := by kernel_rfl) : Zn Tryz.prog t n := mkTySz k
theorem tqB {t : TypeId} {n : Nat} (k : (Tryz.prog.info? t).map (·.bytes) = some n := by kernel_rfl) : Zd Tryz.prog t n := mkTyBytes k
theorem tqO {t : TypeId} {z : Value} (k : (Tryz.prog.info? t).bind (·.zero) = some z := by kernel_rfl) : Zg Tryz.prog t z := mkTyZero k
theorem tqF {t : TypeId} (h : (Tryz.prog.underlying t).map isFuncD = some true := by kernel_rfl) : ZL Tryz.prog t := mkTyFunc h
theorem ZI {s : TypeId} {f off : Nat} {ft : TypeId} (h : fldB Tryz.prog s f = some (off, ft) := by kernel_rfl) : ZF Tryz.prog s f off ft := mkFld h
theorem ZS {f : FuncId} (h : funB Tryz.prog f = true := by kernel_rfl) : ZK Tryz.prog f := mkFun h
instance : TyS Tryz.prog 1 := tqS
instance : Ze Tryz.prog 1 false := tqI
instance : ZL Tryz.prog 1 := tqF
instance : Zn Tryz.prog 1 1 := tqN
instance : Zd Tryz.prog 1 8 := tqB
instance : Zg Tryz.prog 1 (.nilFunc) := tqO
instance : TyS Tryz.prog 2 := tqS
instance : Ze Tryz.prog 2 false := tqI
instance : Zn Tryz.prog 2 1 := tqN
instance : Zd Tryz.prog 2 8 := tqB
instance : Zg Tryz.prog 2 (.int .i64 0) := tqO
instance : YH Tryz.prog 2 .i64 := ⟨by kernel_rfl⟩
instance : TyS Tryz.prog 3 := tqS
instance : Ze Tryz.prog 3 false := tqI
instance : Zn Tryz.prog 3 1 := tqN
instance : Zd Tryz.prog 3 8 := tqB
instance : Zg Tryz.prog 3 (.int .i64 0) := tqO
instance : YH Tryz.prog 3 .i64 := ⟨by kernel_rfl⟩
instance : TyS Tryz.prog 4 := tqS
instance : Ze Tryz.prog 4 false := tqI
instance : Zn Tryz.prog 4 1 := tqN
instance : Zd Tryz.prog 4 1 := tqB
instance : Zg Tryz.prog 4 (.bool false) := tqO
instance : TyBool Tryz.prog 4 := ⟨by kernel_rfl⟩
instance : TyS Tryz.prog 5 := tqS
instance : Ze Tryz.prog 5 false := tqI
instance : Zn Tryz.prog 5 1 := tqN
instance : Zd Tryz.prog 5 1 := tqB
instance : Zg Tryz.prog 5 (.int .u8 0) := tqO
instance : YH Tryz.prog 5 .u8 := ⟨by kernel_rfl⟩
instance : TyA Tryz.prog 7 4 := tqA
instance : Ze Tryz.prog 7 false := tqI
instance : Zn Tryz.prog 7 4 := tqN
instance : Zd Tryz.prog 7 24 := tqB
instance : Zg Tryz.prog 7 (.agg ⟨[.int .i64 0, .int .i64 0, .bool false, .int .u8 0]⟩) := tqO
instance : Zt Tryz.prog 7 := ⟨by kernel_rfl⟩
instance : ZF Tryz.prog 7 0 0 2 := ZI
instance : ZF Tryz.prog 7 1 1 3 := ZI
instance : ZF Tryz.prog 7 2 2 4 := ZI
instance : ZF Tryz.prog 7 3 3 6 := ZI
instance : Zq Tryz.prog 7 (([(0, 1), (1, 1), (2, 1), (3, 1)] : List (Nat × Nat))[·]?) := Zk (by kernel_rfl)
instance : TyS Tryz.prog 9 := tqS
instance : Ze Tryz.prog 9 false := tqI
instance : Zn Tryz.prog 9 1 := tqN
instance : Zd Tryz.prog 9 16 := tqB
instance : Zg Tryz.prog 9 (.string ⟨⟨[]⟩⟩) := tqO
instance : TyStr Tryz.prog 9 := ⟨by kernel_rfl⟩
instance : TyS Tryz.prog 12 := tqS
instance : Ze Tryz.prog 12 false := tqI
instance : Zn Tryz.prog 12 1 := tqN
instance : Zd Tryz.prog 12 8 := tqB
instance : Zg Tryz.prog 12 (.int .u64 0) := tqO
instance : YH Tryz.prog 12 .u64 := ⟨by kernel_rfl⟩
instance : TyS Tryz.prog 16 := tqS
instance : Ze Tryz.prog 16 false := tqI
instance : Zn Tryz.prog 16 1 := tqN
instance : Zd Tryz.prog 16 8 := tqB
instance : Zg Tryz.prog 16 (.pointer none) := tqO
instance : TyPtr Tryz.prog 16 387 := ⟨by kernel_rfl⟩
instance : TyS Tryz.prog 17 := tqS
instance : Ze Tryz.prog 17 false := tqI
instance : Zn Tryz.prog 17 1 := tqN
instance : Zd Tryz.prog 17 8 := tqB
instance : Zg Tryz.prog 17 (.pointer none) := tqO
instance : TyPtr Tryz.prog 17 395 := ⟨by kernel_rfl⟩
instance : TyS Tryz.prog 20 := tqS
instance : Ze Tryz.prog 20 true := tqI
instance : Zn Tryz.prog 20 1 := tqN
instance : Zd Tryz.prog 20 16 := tqB
instance : Zg Tryz.prog 20 (.nilIface) := tqO
instance : TyS Tryz.prog 21 := tqS
instance : Ze Tryz.prog 21 false := tqI
instance : Zn Tryz.prog 21 1 := tqN
instance : Zd Tryz.prog 21 4 := tqB
instance : Zg Tryz.prog 21 (.int .i32 0) := tqO
instance : YH Tryz.prog 21 .i32 := ⟨by kernel_rfl⟩
instance : TyS Tryz.prog 22 := tqS
instance : Ze Tryz.prog 22 false := tqI
instance : Zn Tryz.prog 22 1 := tqN
instance : Zd Tryz.prog 22 24 := tqB
instance : Zg Tryz.prog 22 (.slice none 0 0) := tqO
instance : ZD Tryz.prog 22 5 := ⟨by kernel_rfl⟩
instance : TyS Tryz.prog 23 := tqS
instance : Ze Tryz.prog 23 false := tqI
instance : Zn Tryz.prog 23 1 := tqN
instance : Zd Tryz.prog 23 24 := tqB
instance : Zg Tryz.prog 23 (.slice none 0 0) := tqO
instance : ZD Tryz.prog 23 39 := ⟨by kernel_rfl⟩
instance : TyS Tryz.prog 24 := tqS
instance : Ze Tryz.prog 24 false := tqI
instance : Zn Tryz.prog 24 1 := tqN
instance : Zd Tryz.prog 24 24 := tqB
instance : Zg Tryz.prog 24 (.slice none 0 0) := tqO
instance : ZD Tryz.prog 24 22 := ⟨by kernel_rfl⟩
instance : TyS Tryz.prog 25 := tqS
instance : Ze Tryz.prog 25 false := tqI
instance : ZL Tryz.prog 25 := tqF
instance : Zn Tryz.prog 25 1 := tqN
instance : Zd Tryz.prog 25 8 := tqB
instance : Zg Tryz.prog 25 (.nilFunc) := tqO
instance : TyS Tryz.prog 26 := tqS
instance : Ze Tryz.prog 26 false := tqI
instance : Zn Tryz.prog 26 1 := tqN
instance : Zd Tryz.prog 26 8 := tqB
instance : Zg Tryz.prog 26 (.pointer none) := tqO
instance : TyPtr Tryz.prog 26 113 := ⟨by kernel_rfl⟩
instance : TyS Tryz.prog 27 := tqS
instance : Ze Tryz.prog 27 false := tqI
instance : Zn Tryz.prog 27 1 := tqN
instance : Zd Tryz.prog 27 8 := tqB
instance : Zg Tryz.prog 27 (.int .i64 0) := tqO
instance : YH Tryz.prog 27 .i64 := ⟨by kernel_rfl⟩
instance : TyS Tryz.prog 30 := tqS
instance : Ze Tryz.prog 30 false := tqI
instance : Zn Tryz.prog 30 1 := tqN
instance : Zd Tryz.prog 30 8 := tqB
instance : Zg Tryz.prog 30 (.pointer none) := tqO
instance : TyPtr Tryz.prog 30 123 := ⟨by kernel_rfl⟩
instance : TyS Tryz.prog 32 := tqS
instance : Ze Tryz.prog 32 false := tqI
instance : ZL Tryz.prog 32 := tqF
instance : Zn Tryz.prog 32 1 := tqN
instance : Zd Tryz.prog 32 8 := tqB
instance : Zg Tryz.prog 32 (.nilFunc) := tqO
instance : TyS Tryz.prog 33 := tqS
instance : Ze Tryz.prog 33 false := tqI
instance : Zn Tryz.prog 33 1 := tqN
instance : Zd Tryz.prog 33 8 := tqB
instance : Zg Tryz.prog 33 (.int .u64 0) := tqO
instance : YH Tryz.prog 33 .u64 := ⟨by kernel_rfl⟩
instance : TyS Tryz.prog 34 := tqS
instance : Ze Tryz.prog 34 false := tqI
instance : Zn Tryz.prog 34 1 := tqN
instance : Zd Tryz.prog 34 24 := tqB
instance : Zg Tryz.prog 34 (.slice none 0 0) := tqO
instance : ZD Tryz.prog 34 125 := ⟨by kernel_rfl⟩
instance : TyS Tryz.prog 35 := tqS
instance : Ze Tryz.prog 35 false := tqI
instance : Zn Tryz.prog 35 1 := tqN
instance : Zd Tryz.prog 35 24 := tqB
instance : Zg Tryz.prog 35 (.slice none 0 0) := tqO
instance : ZD Tryz.prog 35 133 := ⟨by kernel_rfl⟩
instance : TyS Tryz.prog 36 := tqS
instance : Ze Tryz.prog 36 false := tqI
instance : Zn Tryz.prog 36 1 := tqN
instance : Zd Tryz.prog 36 24 := tqB
instance : Zg Tryz.prog 36 (.slice none 0 0) := tqO
instance : ZD Tryz.prog 36 147 := ⟨by kernel_rfl⟩
instance : TyS Tryz.prog 37 := tqS
instance : Ze Tryz.prog 37 false := tqI
instance : Zn Tryz.prog 37 1 := tqN
instance : Zd Tryz.prog 37 24 := tqB
instance : Zg Tryz.prog 37 (.slice none 0 0) := tqO
instance : ZD Tryz.prog 37 149 := ⟨by kernel_rfl⟩
instance : TyA Tryz.prog 38 10 := tqA
instance : Ze Tryz.prog 38 false := tqI
instance : Zn Tryz.prog 38 10 := tqN
instance : Zd Tryz.prog 38 144 := tqB
instance : Zg Tryz.prog 38 (.agg ⟨[.int .i64 0, .int .u64 0, .int .i64 0, .int .u64 0, .int .u64 0, .slice none 0 0, .slice none 0 0, .int .i64 0, .slice none 0 0, .slice none 0 0]⟩) := tqO
instance : Zt Tryz.prog 38 := ⟨by kernel_rfl⟩
instance : ZF Tryz.prog 38 0 0 3 := ZI
instance : ZF Tryz.prog 38 1 1 33 := ZI
instance : ZF Tryz.prog 38 2 2 3 := ZI
instance : ZF Tryz.prog 38 3 3 33 := ZI
instance : ZF Tryz.prog 38 4 4 33 := ZI
instance : ZF Tryz.prog 38 5 5 34 := ZI
instance : ZF Tryz.prog 38 6 6 35 := ZI
instance : ZF Tryz.prog 38 7 7 3 := ZI
instance : ZF Tryz.prog 38 8 8 36 := ZI
instance : ZF Tryz.prog 38 9 9 37 := ZI
instance : Zq Tryz.prog 38 (([(0, 1), (1, 1), (2, 1), (3, 1), (4, 1), (5, 1), (6, 1), (7, 1), (8, 1), (9, 1)] : List (Nat × Nat))[·]?) := Zk (by kernel_rfl)
instance : TyA Tryz.prog 39 10 := tqA
instance : Ze Tryz.prog 39 false := tqI
instance : Zn Tryz.prog 39 10 := tqN
instance : Zd Tryz.prog 39 144 := tqB
instance : Zg Tryz.prog 39 (.agg ⟨[.int .i64 0, .int .u64 0, .int .i64 0, .int .u64 0, .int .u64 0, .slice none 0 0, .slice none 0 0, .int .i64 0, .slice none 0 0, .slice none 0 0]⟩) := tqO
instance : Zt Tryz.prog 39 := ⟨by kernel_rfl⟩
instance : YU Tryz.prog 39 [(0, 3), (1, 33), (2, 3), (3, 33), (4, 33), (5, 34), (6, 35), (7, 3), (8, 36), (9, 37)] := Yg (by kernel_rfl)
instance : ZF Tryz.prog 39 0 0 3 := ZI
instance : ZF Tryz.prog 39 1 1 33 := ZI
instance : ZF Tryz.prog 39 2 2 3 := ZI
instance : ZF Tryz.prog 39 3 3 33 := ZI
instance : ZF Tryz.prog 39 4 4 33 := ZI
instance : ZF Tryz.prog 39 5 5 34 := ZI
instance : ZF Tryz.prog 39 6 6 35 := ZI
instance : ZF Tryz.prog 39 7 7 3 := ZI
instance : ZF Tryz.prog 39 8 8 36 := ZI
instance : ZF Tryz.prog 39 9 9 37 := ZI
instance : Zq Tryz.prog 39 (([(0, 1), (1, 1), (2, 1), (3, 1), (4, 1), (5, 1), (6, 1), (7, 1), (8, 1), (9, 1)] : List (Nat × Nat))[·]?) := Zk (by kernel_rfl)
instance : TyS Tryz.prog 40 := tqS
instance : Ze Tryz.prog 40 false := tqI
instance : ZL Tryz.prog 40 := tqF
instance : Zn Tryz.prog 40 1 := tqN
instance : Zd Tryz.prog 40 8 := tqB
instance : Zg Tryz.prog 40 (.nilFunc) := tqO
instance : TyS Tryz.prog 41 := tqS
instance : Ze Tryz.prog 41 false := tqI
instance : ZL Tryz.prog 41 := tqF
instance : Zn Tryz.prog 41 1 := tqN
instance : Zd Tryz.prog 41 8 := tqB
instance : Zg Tryz.prog 41 (.nilFunc) := tqO
instance : TyS Tryz.prog 44 := tqS
instance : Ze Tryz.prog 44 false := tqI
instance : ZL Tryz.prog 44 := tqF
instance : Zn Tryz.prog 44 1 := tqN
instance : Zd Tryz.prog 44 8 := tqB
instance : Zg Tryz.prog 44 (.nilFunc) := tqO
instance : TyA Tryz.prog 48 5 := tqA
instance : Ze Tryz.prog 48 false := tqI
instance : Zn Tryz.prog 48 5 := tqN
instance : Zd Tryz.prog 48 56 := tqB
instance : Zg Tryz.prog 48 (.agg ⟨[.int .u64 0, .int .u64 0, .int .u64 0, .int .i64 0, .slice none 0 0]⟩) := tqO
instance : Zt Tryz.prog 48 := ⟨by kernel_rfl⟩
instance : ZF Tryz.prog 48 0 0 33 := ZI
instance : ZF Tryz.prog 48 1 1 33 := ZI
instance : ZF Tryz.prog 48 2 2 33 := ZI
instance : ZF Tryz.prog 48 3 3 3 := ZI
instance : ZF Tryz.prog 48 4 4 23 := ZI
instance : Zq Tryz.prog 48 (([(0, 1), (1, 1), (2, 1), (3, 1), (4, 1)] : List (Nat × Nat))[·]?) := Zk (by kernel_rfl)
instance : TyS Tryz.prog 52 := tqS
instance : Ze Tryz.prog 52 false := tqI
instance : Zn Tryz.prog 52 1 := tqN
instance : Zd Tryz.prog 52 8 := tqB
instance : Zg Tryz.prog 52 (.pointer none) := tqO
instance : TyPtr Tryz.prog 52 155 := ⟨by kernel_rfl⟩
instance : TyS Tryz.prog 56 := tqS
instance : Ze Tryz.prog 56 false := tqI
instance : ZL Tryz.prog 56 := tqF
instance : Zn Tryz.prog 56 1 := tqN
instance : Zd Tryz.prog 56 8 := tqB
instance : Zg Tryz.prog 56 (.nilFunc) := tqO
instance : TyS Tryz.prog 58 := tqS
instance : Ze Tryz.prog 58 false := tqI
instance : Zn Tryz.prog 58 1 := tqN
instance : Zd Tryz.prog 58 24 := tqB
instance : Zg Tryz.prog 58 (.slice none 0 0) := tqO
instance : ZD Tryz.prog 58 3 := ⟨by kernel_rfl⟩
instance : TyS Tryz.prog 60 := tqS
instance : Ze Tryz.prog 60 false := tqI
instance : Zn Tryz.prog 60 1 := tqN
instance : Zd Tryz.prog 60 24 := tqB
instance : Zg Tryz.prog 60 (.slice none 0 0) := tqO
instance : ZD Tryz.prog 60 4 := ⟨by kernel_rfl⟩
instance : TyA Tryz.prog 61 18 := tqA
instance : Ze Tryz.prog 61 false := tqI
instance : Zn Tryz.prog 61 18 := tqN
instance : Zd Tryz.prog 61 224 := tqB
instance : Zg Tryz.prog 61 (.agg ⟨[.int .i64 0, .int .i64 0, .int .i64 0, .int .i64 0, .int .u64 0, .int .u64 0, .bool false, .int .i64 0, .int .u64 0, .int .i64 0, .int .u64 0, .int .u64 0, .slice none 0 0, .slice none 0 0, .int .i64 0, .slice none 0 0, .slice none 0 0, .slice none 0 0]⟩) := tqO
instance : Zt Tryz.prog 61 := ⟨by kernel_rfl⟩
instance : ZF Tryz.prog 61 0 0 3 := ZI
instance : ZF Tryz.prog 61 1 1 3 := ZI
instance : ZF Tryz.prog 61 2 2 3 := ZI
instance : ZF Tryz.prog 61 3 3 3 := ZI
instance : ZF Tryz.prog 61 4 4 33 := ZI
instance : ZF Tryz.prog 61 5 5 33 := ZI
instance : ZF Tryz.prog 61 6 6 4 := ZI
instance : ZF Tryz.prog 61 7 7 39 := ZI
instance : ZF Tryz.prog 61 8 17 60 := ZI
instance : Zq Tryz.prog 61 (([(0, 1), (1, 1), (2, 1), (3, 1), (4, 1), (5, 1), (6, 1), (7, 10), (17, 1)] : List (Nat × Nat))[·]?) := Zk (by kernel_rfl)
instance : TyA Tryz.prog 62 18 := tqA
instance : Ze Tryz.prog 62 false := tqI
instance : Zn Tryz.prog 62 18 := tqN
instance : Zd Tryz.prog 62 224 := tqB
instance : Zg Tryz.prog 62 (.agg ⟨[.int .i64 0, .int .i64 0, .int .i64 0, .int .i64 0, .int .u64 0, .int .u64 0, .bool false, .int .i64 0, .int .u64 0, .int .i64 0, .int .u64 0, .int .u64 0, .slice none 0 0, .slice none 0 0, .int .i64 0, .slice none 0 0, .slice none 0 0, .slice none 0 0]⟩) := tqO
instance : Zt Tryz.prog 62 := ⟨by kernel_rfl⟩
instance : YU Tryz.prog 62 [(0, 3), (1, 3), (2, 3), (3, 3), (4, 33), (5, 33), (6, 4), (7, 39), (17, 60)] := Yg (by kernel_rfl)
instance : ZF Tryz.prog 62 0 0 3 := ZI
instance : ZF Tryz.prog 62 1 1 3 := ZI
instance : ZF Tryz.prog 62 2 2 3 := ZI
instance : ZF Tryz.prog 62 3 3 3 := ZI
instance : ZF Tryz.prog 62 4 4 33 := ZI
instance : ZF Tryz.prog 62 5 5 33 := ZI
instance : ZF Tryz.prog 62 6 6 4 := ZI
instance : ZF Tryz.prog 62 7 7 39 := ZI
instance : ZF Tryz.prog 62 8 17 60 := ZI
instance : Zq Tryz.prog 62 (([(0, 1), (1, 1), (2, 1), (3, 1), (4, 1), (5, 1), (6, 1), (7, 10), (17, 1)] : List (Nat × Nat))[·]?) := Zk (by kernel_rfl)
instance : TyS Tryz.prog 64 := tqS
instance : Ze Tryz.prog 64 false := tqI
instance : ZL Tryz.prog 64 := tqF
instance : Zn Tryz.prog 64 1 := tqN
instance : Zd Tryz.prog 64 8 := tqB
instance : Zg Tryz.prog 64 (.nilFunc) := tqO
instance : TyS Tryz.prog 71 := tqS
instance : Ze Tryz.prog 71 false := tqI
instance : ZL Tryz.prog 71 := tqF
instance : Zn Tryz.prog 71 1 := tqN
instance : Zd Tryz.prog 71 8 := tqB
instance : Zg Tryz.prog 71 (.nilFunc) := tqO
instance : TyS Tryz.prog 72 := tqS
instance : Ze Tryz.prog 72 false := tqI
instance : ZL Tryz.prog 72 := tqF
instance : Zn Tryz.prog 72 1 := tqN
instance : Zd Tryz.prog 72 8 := tqB
instance : Zg Tryz.prog 72 (.nilFunc) := tqO
instance : TyS Tryz.prog 75 := tqS
instance : Ze Tryz.prog 75 false := tqI
instance : Zn Tryz.prog 75 1 := tqN
instance : Zd Tryz.prog 75 8 := tqB
instance : Zg Tryz.prog 75 (.int .u64 0) := tqO
instance : YH Tryz.prog 75 .u64 := ⟨by kernel_rfl⟩
instance : TyS Tryz.prog 87 := tqS
instance : Ze Tryz.prog 87 false := tqI
instance : Zn Tryz.prog 87 1 := tqN
instance : Zd Tryz.prog 87 24 := tqB
instance : Zg Tryz.prog 87 (.slice none 0 0) := tqO
instance : ZD Tryz.prog 87 192 := ⟨by kernel_rfl⟩
instance : TyA Tryz.prog 88 5 := tqA
instance : Ze Tryz.prog 88 false := tqI
instance : Zn Tryz.prog 88 5 := tqN
instance : Zd Tryz.prog 88 72 := tqB
instance : Zg Tryz.prog 88 (.agg ⟨[.slice none 0 0, .slice none 0 0, .int .u64 0, .int .u64 0, .int .u64 0]⟩) := tqO
instance : Zt Tryz.prog 88 := ⟨by kernel_rfl⟩
instance : ZF Tryz.prog 88 0 0 87 := ZI
instance : ZF Tryz.prog 88 1 1 87 := ZI
instance : ZF Tryz.prog 88 2 2 33 := ZI
instance : ZF Tryz.prog 88 3 3 33 := ZI
instance : ZF Tryz.prog 88 4 4 33 := ZI
instance : Zq Tryz.prog 88 (([(0, 1), (1, 1), (2, 1), (3, 1), (4, 1)] : List (Nat × Nat))[·]?) := Zk (by kernel_rfl)
instance : TyS Tryz.prog 94 := tqS
instance : Ze Tryz.prog 94 false := tqI
instance : Zn Tryz.prog 94 1 := tqN
instance : Zd Tryz.prog 94 8 := tqB
instance : Zg Tryz.prog 94 (.pointer none) := tqO
instance : TyPtr Tryz.prog 94 258 := ⟨by kernel_rfl⟩
instance : TyS Tryz.prog 95 := tqS
instance : Ze Tryz.prog 95 false := tqI
instance : Zn Tryz.prog 95 1 := tqN
instance : Zd Tryz.prog 95 8 := tqB
instance : Zg Tryz.prog 95 (.pointer none) := tqO
instance : TyPtr Tryz.prog 95 242 := ⟨by kernel_rfl⟩
instance : TyA Tryz.prog 96 4 := tqA
instance : Ze Tryz.prog 96 false := tqI
instance : Zn Tryz.prog 96 4 := tqN
instance : Zd Tryz.prog 96 32 := tqB
instance : Zg Tryz.prog 96 (.agg ⟨[.pointer none, .pointer none, .pointer none, .pointer none]⟩) := tqO
instance : Zt Tryz.prog 96 := ⟨by kernel_rfl⟩
instance : ZF Tryz.prog 96 0 0 26 := ZI
instance : ZF Tryz.prog 96 1 1 94 := ZI
instance : ZF Tryz.prog 96 2 2 52 := ZI
instance : ZF Tryz.prog 96 3 3 95 := ZI
instance : Zq Tryz.prog 96 (([(0, 1), (1, 1), (2, 1), (3, 1)] : List (Nat × Nat))[·]?) := Zk (by kernel_rfl)
instance : TyS Tryz.prog 101 := tqS
instance : Ze Tryz.prog 101 false := tqI
instance : Zn Tryz.prog 101 1 := tqN
instance : Zd Tryz.prog 101 24 := tqB
instance : Zg Tryz.prog 101 (.slice none 0 0) := tqO
instance : ZD Tryz.prog 101 131 := ⟨by kernel_rfl⟩
instance : TyS Tryz.prog 102 := tqS
instance : Ze Tryz.prog 102 false := tqI
instance : Zn Tryz.prog 102 1 := tqN
instance : Zd Tryz.prog 102 24 := tqB
instance : Zg Tryz.prog 102 (.slice none 0 0) := tqO
instance : ZD Tryz.prog 102 212 := ⟨by kernel_rfl⟩
instance : TyA Tryz.prog 103 3 := tqA
instance : Ze Tryz.prog 103 false := tqI
instance : Zn Tryz.prog 103 3 := tqN
instance : Zd Tryz.prog 103 56 := tqB
instance : Zg Tryz.prog 103 (.agg ⟨[.int .i64 0, .slice none 0 0, .slice none 0 0]⟩) := tqO
instance : Zt Tryz.prog 103 := ⟨by kernel_rfl⟩
instance : ZF Tryz.prog 103 0 0 3 := ZI
instance : ZF Tryz.prog 103 1 1 101 := ZI
instance : ZF Tryz.prog 103 2 2 102 := ZI
instance : Zq Tryz.prog 103 (([(0, 1), (1, 1), (2, 1)] : List (Nat × Nat))[·]?) := Zk (by kernel_rfl)
instance : TyA Tryz.prog 104 3 := tqA
instance : Ze Tryz.prog 104 false := tqI
instance : Zn Tryz.prog 104 3 := tqN
instance : Zd Tryz.prog 104 56 := tqB
instance : Zg Tryz.prog 104 (.agg ⟨[.int .i64 0, .slice none 0 0, .slice none 0 0]⟩) := tqO
instance : Zt Tryz.prog 104 := ⟨by kernel_rfl⟩
instance : YU Tryz.prog 104 [(0, 3), (1, 101), (2, 102)] := Yg (by kernel_rfl)
instance : ZF Tryz.prog 104 0 0 3 := ZI
instance : ZF Tryz.prog 104 1 1 101 := ZI
instance : ZF Tryz.prog 104 2 2 102 := ZI
instance : Zq Tryz.prog 104 (([(0, 1), (1, 1), (2, 1)] : List (Nat × Nat))[·]?) := Zk (by kernel_rfl)
instance : TyS Tryz.prog 110 := tqS
instance : Ze Tryz.prog 110 false := tqI
instance : Zn Tryz.prog 110 1 := tqN
instance : Zd Tryz.prog 110 24 := tqB
instance : Zg Tryz.prog 110 (.slice none 0 0) := tqO
instance : ZD Tryz.prog 110 117 := ⟨by kernel_rfl⟩
instance : TyS Tryz.prog 111 := tqS
instance : Ze Tryz.prog 111 false := tqI
instance : Zn Tryz.prog 111 1 := tqN
instance : Zd Tryz.prog 111 8 := tqB
instance : Zg Tryz.prog 111 (.map none) := tqO
instance : TyMap Tryz.prog 111 3 117 := ⟨by kernel_rfl⟩
instance : TyA Tryz.prog 112 6 := tqA
instance : Ze Tryz.prog 112 false := tqI
instance : Zn Tryz.prog 112 6 := tqN
instance : Zd Tryz.prog 112 64 := tqB
instance : Zg Tryz.prog 112 (.agg ⟨[.slice none 0 0, .map none, .int .i64 0, .int .i64 0, .int .i64 0, .bool false]⟩) := tqO
instance : Zt Tryz.prog 112 := ⟨by kernel_rfl⟩
instance : ZF Tryz.prog 112 0 0 110 := ZI
instance : ZF Tryz.prog 112 1 1 111 := ZI
instance : ZF Tryz.prog 112 2 2 3 := ZI
instance : ZF Tryz.prog 112 3 3 3 := ZI
instance : ZF Tryz.prog 112 4 4 3 := ZI
instance : ZF Tryz.prog 112 5 5 4 := ZI
instance : Zq Tryz.prog 112 (([(0, 1), (1, 1), (2, 1), (3, 1), (4, 1), (5, 1)] : List (Nat × Nat))[·]?) := Zk (by kernel_rfl)
instance : TyA Tryz.prog 113 6 := tqA
instance : Ze Tryz.prog 113 false := tqI
instance : Zn Tryz.prog 113 6 := tqN
instance : Zd Tryz.prog 113 64 := tqB
instance : Zg Tryz.prog 113 (.agg ⟨[.slice none 0 0, .map none, .int .i64 0, .int .i64 0, .int .i64 0, .bool false]⟩) := tqO
instance : Zt Tryz.prog 113 := ⟨by kernel_rfl⟩
instance : YU Tryz.prog 113 [(0, 110), (1, 111), (2, 3), (3, 3), (4, 3), (5, 4)] := Yg (by kernel_rfl)
instance : ZF Tryz.prog 113 0 0 110 := ZI
instance : ZF Tryz.prog 113 1 1 111 := ZI
instance : ZF Tryz.prog 113 2 2 3 := ZI
instance : ZF Tryz.prog 113 3 3 3 := ZI
instance : ZF Tryz.prog 113 4 4 3 := ZI
instance : ZF Tryz.prog 113 5 5 4 := ZI
instance : Zq Tryz.prog 113 (([(0, 1), (1, 1), (2, 1), (3, 1), (4, 1), (5, 1)] : List (Nat × Nat))[·]?) := Zk (by kernel_rfl)
instance : TyS Tryz.prog 115 := tqS
instance : Ze Tryz.prog 115 false := tqI
instance : ZL Tryz.prog 115 := tqF
instance : Zn Tryz.prog 115 1 := tqN
instance : Zd Tryz.prog 115 8 := tqB
instance : Zg Tryz.prog 115 (.nilFunc) := tqO
instance : TyA Tryz.prog 116 64 := tqA
instance : Ze Tryz.prog 116 false := tqI
instance : Zn Tryz.prog 116 64 := tqN
instance : Zd Tryz.prog 116 64 := tqB
instance : Zg Tryz.prog 116 (.agg ⟨List.replicate 64 (.int .u8 0)⟩) := tqO
instance : Zt Tryz.prog 116 := ⟨by kernel_rfl⟩
instance : TyArr Tryz.prog 116 64 5 := ⟨by kernel_rfl⟩
instance : Zq Tryz.prog 116 (fun i => some (i * 1, 1)) := mkTyPlacesA (n := 64) (e := 5) (by kernel_rfl) (by kernel_rfl)
instance : TyA Tryz.prog 117 64 := tqA
instance : Ze Tryz.prog 117 false := tqI
instance : Zn Tryz.prog 117 64 := tqN
instance : Zd Tryz.prog 117 64 := tqB
instance : Zg Tryz.prog 117 (.agg ⟨List.replicate 64 (.int .u8 0)⟩) := tqO
instance : Zt Tryz.prog 117 := ⟨by kernel_rfl⟩
instance : TyArr Tryz.prog 117 64 5 := ⟨by kernel_rfl⟩
instance : Zq Tryz.prog 117 (fun i => some (i * 1, 1)) := mkTyPlacesA (n := 64) (e := 5) (by kernel_rfl) (by kernel_rfl)
instance : TyS Tryz.prog 118 := tqS
instance : Ze Tryz.prog 118 false := tqI
instance : ZL Tryz.prog 118 := tqF
instance : Zn Tryz.prog 118 1 := tqN
instance : Zd Tryz.prog 118 8 := tqB
instance : Zg Tryz.prog 118 (.nilFunc) := tqO
instance : TyA Tryz.prog 119 5 := tqA
instance : Ze Tryz.prog 119 false := tqI
instance : Zn Tryz.prog 119 5 := tqN
instance : Zd Tryz.prog 119 56 := tqB
instance : Zg Tryz.prog 119 (.agg ⟨[.int .u64 0, .int .u64 0, .int .i64 0, .int .i64 0, .slice none 0 0]⟩) := tqO
instance : Zt Tryz.prog 119 := ⟨by kernel_rfl⟩
instance : ZF Tryz.prog 119 0 0 33 := ZI
instance : ZF Tryz.prog 119 1 1 33 := ZI
instance : ZF Tryz.prog 119 2 2 3 := ZI
instance : ZF Tryz.prog 119 3 3 3 := ZI
instance : ZF Tryz.prog 119 4 4 22 := ZI
instance : Zq Tryz.prog 119 (([(0, 1), (1, 1), (2, 1), (3, 1), (4, 1)] : List (Nat × Nat))[·]?) := Zk (by kernel_rfl)
instance : TyA Tryz.prog 120 5 := tqA
instance : Ze Tryz.prog 120 false := tqI
instance : Zn Tryz.prog 120 5 := tqN
instance : Zd Tryz.prog 120 56 := tqB
instance : Zg Tryz.prog 120 (.agg ⟨[.int .u64 0, .int .u64 0, .int .i64 0, .int .i64 0, .slice none 0 0]⟩) := tqO
instance : Zt Tryz.prog 120 := ⟨by kernel_rfl⟩
instance : YU Tryz.prog 120 [(0, 33), (1, 33), (2, 3), (3, 3), (4, 22)] := Yg (by kernel_rfl)
instance : ZF Tryz.prog 120 0 0 33 := ZI
instance : ZF Tryz.prog 120 1 1 33 := ZI
instance : ZF Tryz.prog 120 2 2 3 := ZI
instance : ZF Tryz.prog 120 3 3 3 := ZI
instance : ZF Tryz.prog 120 4 4 22 := ZI
instance : Zq Tryz.prog 120 (([(0, 1), (1, 1), (2, 1), (3, 1), (4, 1)] : List (Nat × Nat))[·]?) := Zk (by kernel_rfl)
instance : TyA Tryz.prog 122 9 := tqA
instance : Ze Tryz.prog 122 false := tqI
instance : Zn Tryz.prog 122 9 := tqN
instance : Zd Tryz.prog 122 104 := tqB
instance : Zg Tryz.prog 122 (.agg ⟨[.int .u64 0, .int .u64 0, .int .i64 0, .int .i64 0, .slice none 0 0, .pointer none, .slice none 0 0, .int .i64 0, .bool false]⟩) := tqO
instance : Zt Tryz.prog 122 := ⟨by kernel_rfl⟩
instance : ZF Tryz.prog 122 0 0 120 := ZI
instance : ZF Tryz.prog 122 1 5 26 := ZI
instance : ZF Tryz.prog 122 2 6 24 := ZI
instance : ZF Tryz.prog 122 3 7 3 := ZI
instance : ZF Tryz.prog 122 4 8 4 := ZI
instance : Zq Tryz.prog 122 (([(0, 5), (5, 1), (6, 1), (7, 1), (8, 1)] : List (Nat × Nat))[·]?) := Zk (by kernel_rfl)
instance : TyA Tryz.prog 123 9 := tqA
instance : Ze Tryz.prog 123 false := tqI
instance : Zn Tryz.prog 123 9 := tqN
instance : Zd Tryz.prog 123 104 := tqB
instance : Zg Tryz.prog 123 (.agg ⟨[.int .u64 0, .int .u64 0, .int .i64 0, .int .i64 0, .slice none 0 0, .pointer none, .slice none 0 0, .int .i64 0, .bool false]⟩) := tqO
instance : Zt Tryz.prog 123 := ⟨by kernel_rfl⟩
instance : YU Tryz.prog 123 [(0, 120), (5, 26), (6, 24), (7, 3), (8, 4)] := Yg (by kernel_rfl)
instance : ZF Tryz.prog 123 0 0 120 := ZI
instance : ZF Tryz.prog 123 1 5 26 := ZI
instance : ZF Tryz.prog 123 2 6 24 := ZI
instance : ZF Tryz.prog 123 3 7 3 := ZI
instance : ZF Tryz.prog 123 4 8 4 := ZI
instance : Zq Tryz.prog 123 (([(0, 5), (5, 1), (6, 1), (7, 1), (8, 1)] : List (Nat × Nat))[·]?) := Zk (by kernel_rfl)
instance : TyA Tryz.prog 124 7 := tqA
instance : Ze Tryz.prog 124 false := tqI
instance : Zn Tryz.prog 124 7 := tqN
instance : Zd Tryz.prog 124 120 := tqB
instance : Zg Tryz.prog 124 (.agg ⟨[.int .i64 0, .int .i64 0, .slice none 0 0, .slice none 0 0, .int .i64 0, .slice none 0 0, .slice none 0 0]⟩) := tqO
instance : Zt Tryz.prog 124 := ⟨by kernel_rfl⟩
instance : ZF Tryz.prog 124 0 0 3 := ZI
instance : ZF Tryz.prog 124 1 1 104 := ZI
instance : ZF Tryz.prog 124 2 4 104 := ZI
instance : Zq Tryz.prog 124 (([(0, 1), (1, 3), (4, 3)] : List (Nat × Nat))[·]?) := Zk (by kernel_rfl)
instance : TyA Tryz.prog 125 7 := tqA
instance : Ze Tryz.prog 125 false := tqI
instance : Zn Tryz.prog 125 7 := tqN
instance : Zd Tryz.prog 125 120 := tqB
instance : Zg Tryz.prog 125 (.agg ⟨[.int .i64 0, .int .i64 0, .slice none 0 0, .slice none 0 0, .int .i64 0, .slice none 0 0, .slice none 0 0]⟩) := tqO
instance : Zt Tryz.prog 125 := ⟨by kernel_rfl⟩
instance : YU Tryz.prog 125 [(0, 3), (1, 104), (4, 104)] := Yg (by kernel_rfl)
instance : ZF Tryz.prog 125 0 0 3 := ZI
instance : ZF Tryz.prog 125 1 1 104 := ZI
instance : ZF Tryz.prog 125 2 4 104 := ZI
instance : Zq Tryz.prog 125 (([(0, 1), (1, 3), (4, 3)] : List (Nat × Nat))[·]?) := Zk (by kernel_rfl)
instance : TyS Tryz.prog 127 := tqS
instance : Ze Tryz.prog 127 false := tqI
instance : Zn Tryz.prog 127 1 := tqN
instance : Zd Tryz.prog 127 2 := tqB
instance : Zg Tryz.prog 127 (.int .u16 0) := tqO
instance : YH Tryz.prog 127 .u16 := ⟨by kernel_rfl⟩
instance : TyA Tryz.prog 128 2 := tqA
instance : Ze Tryz.prog 128 false := tqI
instance : Zn Tryz.prog 128 2 := tqN
instance : Zd Tryz.prog 128 16 := tqB
instance : Zg Tryz.prog 128 (.agg ⟨[.int .i64 0, .int .u16 0]⟩) := tqO
instance : Zt Tryz.prog 128 := ⟨by kernel_rfl⟩
instance : ZF Tryz.prog 128 0 0 3 := ZI
instance : ZF Tryz.prog 128 1 1 127 := ZI
instance : Zq Tryz.prog 128 (([(0, 1), (1, 1)] : List (Nat × Nat))[·]?) := Zk (by kernel_rfl)
instance : TyA Tryz.prog 129 2 := tqA
instance : Ze Tryz.prog 129 false := tqI
instance : Zn Tryz.prog 129 2 := tqN
instance : Zd Tryz.prog 129 16 := tqB
instance : Zg Tryz.prog 129 (.agg ⟨[.int .i64 0, .int .u16 0]⟩) := tqO
instance : Zt Tryz.prog 129 := ⟨by kernel_rfl⟩
instance : YU Tryz.prog 129 [(0, 3), (1, 127)] := Yg (by kernel_rfl)
instance : ZF Tryz.prog 129 0 0 3 := ZI
instance : ZF Tryz.prog 129 1 1 127 := ZI
instance : Zq Tryz.prog 129 (([(0, 1), (1, 1)] : List (Nat × Nat))[·]?) := Zk (by kernel_rfl)
instance : TyA Tryz.prog 130 4 := tqA
instance : Ze Tryz.prog 130 false := tqI
instance : Zn Tryz.prog 130 4 := tqN
instance : Zd Tryz.prog 130 40 := tqB
instance : Zg Tryz.prog 130 (.agg ⟨[.int .i64 0, .int .u16 0, .int .i64 0, .string ⟨⟨[]⟩⟩]⟩) := tqO
instance : Zt Tryz.prog 130 := ⟨by kernel_rfl⟩
instance : ZF Tryz.prog 130 0 0 129 := ZI
instance : ZF Tryz.prog 130 1 2 2 := ZI
instance : ZF Tryz.prog 130 2 3 9 := ZI
instance : Zq Tryz.prog 130 (([(0, 2), (2, 1), (3, 1)] : List (Nat × Nat))[·]?) := Zk (by kernel_rfl)
instance : TyA Tryz.prog 131 4 := tqA
instance : Ze Tryz.prog 131 false := tqI
instance : Zn Tryz.prog 131 4 := tqN
instance : Zd Tryz.prog 131 40 := tqB
instance : Zg Tryz.prog 131 (.agg ⟨[.int .i64 0, .int .u16 0, .int .i64 0, .string ⟨⟨[]⟩⟩]⟩) := tqO
instance : Zt Tryz.prog 131 := ⟨by kernel_rfl⟩
instance : YU Tryz.prog 131 [(0, 129), (2, 2), (3, 9)] := Yg (by kernel_rfl)
instance : ZF Tryz.prog 131 0 0 129 := ZI
instance : ZF Tryz.prog 131 1 2 2 := ZI
instance : ZF Tryz.prog 131 2 3 9 := ZI
instance : Zq Tryz.prog 131 (([(0, 2), (2, 1), (3, 1)] : List (Nat × Nat))[·]?) := Zk (by kernel_rfl)
instance : TyA Tryz.prog 132 6 := tqA
instance : Ze Tryz.prog 132 false := tqI
instance : Zn Tryz.prog 132 6 := tqN
instance : Zd Tryz.prog 132 56 := tqB
instance : Zg Tryz.prog 132 (.agg ⟨[.int .i64 0, .int .i64 0, .int .u16 0, .int .i64 0, .string ⟨⟨[]⟩⟩, .int .i64 0]⟩) := tqO
instance : Zt Tryz.prog 132 := ⟨by kernel_rfl⟩
instance : ZF Tryz.prog 132 0 0 3 := ZI
instance : ZF Tryz.prog 132 1 1 131 := ZI
instance : ZF Tryz.prog 132 2 5 2 := ZI
instance : Zq Tryz.prog 132 (([(0, 1), (1, 4), (5, 1)] : List (Nat × Nat))[·]?) := Zk (by kernel_rfl)
instance : TyA Tryz.prog 133 6 := tqA
instance : Ze Tryz.prog 133 false := tqI
instance : Zn Tryz.prog 133 6 := tqN
instance : Zd Tryz.prog 133 56 := tqB
instance : Zg Tryz.prog 133 (.agg ⟨[.int .i64 0, .int .i64 0, .int .u16 0, .int .i64 0, .string ⟨⟨[]⟩⟩, .int .i64 0]⟩) := tqO
instance : Zt Tryz.prog 133 := ⟨by kernel_rfl⟩
instance : YU Tryz.prog 133 [(0, 3), (1, 131), (5, 2)] := Yg (by kernel_rfl)
instance : ZF Tryz.prog 133 0 0 3 := ZI
instance : ZF Tryz.prog 133 1 1 131 := ZI
instance : ZF Tryz.prog 133 2 5 2 := ZI
instance : Zq Tryz.prog 133 (([(0, 1), (1, 4), (5, 1)] : List (Nat × Nat))[·]?) := Zk (by kernel_rfl)
instance : TyS Tryz.prog 139 := tqS
instance : Ze Tryz.prog 139 false := tqI
instance : ZL Tryz.prog 139 := tqF
instance : Zn Tryz.prog 139 1 := tqN
instance : Zd Tryz.prog 139 8 := tqB
instance : Zg Tryz.prog 139 (.nilFunc) := tqO
instance : TyS Tryz.prog 141 := tqS
instance : Ze Tryz.prog 141 false := tqI
instance : ZL Tryz.prog 141 := tqF
instance : Zn Tryz.prog 141 1 := tqN
instance : Zd Tryz.prog 141 8 := tqB
instance : Zg Tryz.prog 141 (.nilFunc) := tqO
instance : TyS Tryz.prog 144 := tqS
instance : Ze Tryz.prog 144 false := tqI
instance : ZL Tryz.prog 144 := tqF
instance : Zn Tryz.prog 144 1 := tqN
instance : Zd Tryz.prog 144 8 := tqB
instance : Zg Tryz.prog 144 (.nilFunc) := tqO
instance : TyA Tryz.prog 146 5 := tqA
instance : Ze Tryz.prog 146 false := tqI
instance : Zn Tryz.prog 146 5 := tqN
instance : Zd Tryz.prog 146 40 := tqB
instance : Zg Tryz.prog 146 (.agg ⟨[.int .i64 0, .int .u64 0, .int .u64 0, .int .u64 0, .int .i64 0]⟩) := tqO
instance : Zt Tryz.prog 146 := ⟨by kernel_rfl⟩
instance : ZF Tryz.prog 146 0 0 3 := ZI
instance : ZF Tryz.prog 146 1 1 33 := ZI
instance : ZF Tryz.prog 146 2 2 33 := ZI
instance : ZF Tryz.prog 146 3 3 33 := ZI
instance : ZF Tryz.prog 146 4 4 3 := ZI
instance : Zq Tryz.prog 146 (([(0, 1), (1, 1), (2, 1), (3, 1), (4, 1)] : List (Nat × Nat))[·]?) := Zk (by kernel_rfl)
instance : TyA Tryz.prog 147 5 := tqA
instance : Ze Tryz.prog 147 false := tqI
instance : Zn Tryz.prog 147 5 := tqN
instance : Zd Tryz.prog 147 40 := tqB
instance : Zg Tryz.prog 147 (.agg ⟨[.int .i64 0, .int .u64 0, .int .u64 0, .int .u64 0, .int .i64 0]⟩) := tqO
instance : Zt Tryz.prog 147 := ⟨by kernel_rfl⟩
instance : YU Tryz.prog 147 [(0, 3), (1, 33), (2, 33), (3, 33), (4, 3)] := Yg (by kernel_rfl)
instance : ZF Tryz.prog 147 0 0 3 := ZI
instance : ZF Tryz.prog 147 1 1 33 := ZI
instance : ZF Tryz.prog 147 2 2 33 := ZI
instance : ZF Tryz.prog 147 3 3 33 := ZI
instance : ZF Tryz.prog 147 4 4 3 := ZI
instance : Zq Tryz.prog 147 (([(0, 1), (1, 1), (2, 1), (3, 1), (4, 1)] : List (Nat × Nat))[·]?) := Zk (by kernel_rfl)
instance : TyA Tryz.prog 148 2 := tqA
instance : Ze Tryz.prog 148 false := tqI
instance : Zn Tryz.prog 148 2 := tqN
instance : Zd Tryz.prog 148 16 := tqB
instance : Zg Tryz.prog 148 (.agg ⟨[.int .i64 0, .int .u64 0]⟩) := tqO
instance : Zt Tryz.prog 148 := ⟨by kernel_rfl⟩
instance : ZF Tryz.prog 148 0 0 3 := ZI
instance : ZF Tryz.prog 148 1 1 33 := ZI
instance : Zq Tryz.prog 148 (([(0, 1), (1, 1)] : List (Nat × Nat))[·]?) := Zk (by kernel_rfl)
instance : TyA Tryz.prog 149 2 := tqA
instance : Ze Tryz.prog 149 false := tqI
instance : Zn Tryz.prog 149 2 := tqN
instance : Zd Tryz.prog 149 16 := tqB
instance : Zg Tryz.prog 149 (.agg ⟨[.int .i64 0, .int .u64 0]⟩) := tqO
instance : Zt Tryz.prog 149 := ⟨by kernel_rfl⟩
instance : YU Tryz.prog 149 [(0, 3), (1, 33)] := Yg (by kernel_rfl)
instance : ZF Tryz.prog 149 0 0 3 := ZI
instance : ZF Tryz.prog 149 1 1 33 := ZI
instance : Zq Tryz.prog 149 (([(0, 1), (1, 1)] : List (Nat × Nat))[·]?) := Zk (by kernel_rfl)
instance : TyA Tryz.prog 154 7 := tqA
instance : Ze Tryz.prog 154 false := tqI
instance : Zn Tryz.prog 154 7 := tqN
instance : Zd Tryz.prog 154 72 := tqB
instance : Zg Tryz.prog 154 (.agg ⟨[.pointer none, .int .u64 0, .int .u64 0, .int .u64 0, .int .i64 0, .slice none 0 0, .int .i64 0]⟩) := tqO
instance : Zt Tryz.prog 154 := ⟨by kernel_rfl⟩
instance : ZF Tryz.prog 154 0 0 30 := ZI
instance : ZF Tryz.prog 154 1 1 33 := ZI
instance : ZF Tryz.prog 154 2 2 33 := ZI
instance : ZF Tryz.prog 154 3 3 33 := ZI
instance : ZF Tryz.prog 154 4 4 3 := ZI
instance : ZF Tryz.prog 154 5 5 23 := ZI
instance : ZF Tryz.prog 154 6 6 3 := ZI
instance : Zq Tryz.prog 154 (([(0, 1), (1, 1), (2, 1), (3, 1), (4, 1), (5, 1), (6, 1)] : List (Nat × Nat))[·]?) := Zk (by kernel_rfl)
instance : TyA Tryz.prog 155 7 := tqA
instance : Ze Tryz.prog 155 false := tqI
instance : Zn Tryz.prog 155 7 := tqN
instance : Zd Tryz.prog 155 72 := tqB
instance : Zg Tryz.prog 155 (.agg ⟨[.pointer none, .int .u64 0, .int .u64 0, .int .u64 0, .int .i64 0, .slice none 0 0, .int .i64 0]⟩) := tqO
instance : Zt Tryz.prog 155 := ⟨by kernel_rfl⟩
instance : YU Tryz.prog 155 [(0, 30), (1, 33), (2, 33), (3, 33), (4, 3), (5, 23), (6, 3)] := Yg (by kernel_rfl)
instance : ZF Tryz.prog 155 0 0 30 := ZI
instance : ZF Tryz.prog 155 1 1 33 := ZI
instance : ZF Tryz.prog 155 2 2 33 := ZI
instance : ZF Tryz.prog 155 3 3 33 := ZI
instance : ZF Tryz.prog 155 4 4 3 := ZI
instance : ZF Tryz.prog 155 5 5 23 := ZI
instance : ZF Tryz.prog 155 6 6 3 := ZI
instance : Zq Tryz.prog 155 (([(0, 1), (1, 1), (2, 1), (3, 1), (4, 1), (5, 1), (6, 1)] : List (Nat × Nat))[·]?) := Zk (by kernel_rfl)
instance : TyS Tryz.prog 156 := tqS
instance : Ze Tryz.prog 156 false := tqI
instance : ZL Tryz.prog 156 := tqF
instance : Zn Tryz.prog 156 1 := tqN
instance : Zd Tryz.prog 156 8 := tqB
instance : Zg Tryz.prog 156 (.nilFunc) := tqO
instance : TyS Tryz.prog 166 := tqS
instance : Ze Tryz.prog 166 false := tqI
instance : ZL Tryz.prog 166 := tqF
instance : Zn Tryz.prog 166 1 := tqN
instance : Zd Tryz.prog 166 8 := tqB
instance : Zg Tryz.prog 166 (.nilFunc) := tqO
instance : TyS Tryz.prog 167 := tqS
instance : Ze Tryz.prog 167 false := tqI
instance : ZL Tryz.prog 167 := tqF
instance : Zn Tryz.prog 167 1 := tqN
instance : Zd Tryz.prog 167 8 := tqB
instance : Zg Tryz.prog 167 (.nilFunc) := tqO
instance : TyS Tryz.prog 176 := tqS
instance : Ze Tryz.prog 176 false := tqI
instance : ZL Tryz.prog 176 := tqF
instance : Zn Tryz.prog 176 1 := tqN
instance : Zd Tryz.prog 176 8 := tqB
instance : Zg Tryz.prog 176 (.nilFunc) := tqO
instance : TyS Tryz.prog 177 := tqS
instance : Ze Tryz.prog 177 false := tqI
instance : ZL Tryz.prog 177 := tqF
instance : Zn Tryz.prog 177 1 := tqN
instance : Zd Tryz.prog 177 8 := tqB
instance : Zg Tryz.prog 177 (.nilFunc) := tqO
instance : TyS Tryz.prog 180 := tqS
instance : Ze Tryz.prog 180 false := tqI
instance : ZL Tryz.prog 180 := tqF
instance : Zn Tryz.prog 180 1 := tqN
instance : Zd Tryz.prog 180 8 := tqB
instance : Zg Tryz.prog 180 (.nilFunc) := tqO
instance : TyS Tryz.prog 181 := tqS
instance : Ze Tryz.prog 181 false := tqI
instance : ZL Tryz.prog 181 := tqF
instance : Zn Tryz.prog 181 1 := tqN
instance : Zd Tryz.prog 181 8 := tqB
instance : Zg Tryz.prog 181 (.nilFunc) := tqO
instance : TyA Tryz.prog 191 6 := tqA
instance : Ze Tryz.prog 191 false := tqI
instance : Zn Tryz.prog 191 6 := tqN
instance : Zd Tryz.prog 191 80 := tqB
instance : Zg Tryz.prog 191 (.agg ⟨[.bool false, .int .i64 0, .slice none 0 0, .slice none 0 0, .int .u64 0, .int .u64 0]⟩) := tqO
instance : Zt Tryz.prog 191 := ⟨by kernel_rfl⟩
instance : ZF Tryz.prog 191 0 0 4 := ZI
instance : ZF Tryz.prog 191 1 1 104 := ZI
instance : ZF Tryz.prog 191 2 4 33 := ZI
instance : ZF Tryz.prog 191 3 5 33 := ZI
instance : Zq Tryz.prog 191 (([(0, 1), (1, 3), (4, 1), (5, 1)] : List (Nat × Nat))[·]?) := Zk (by kernel_rfl)
instance : TyA Tryz.prog 192 6 := tqA
instance : Ze Tryz.prog 192 false := tqI
instance : Zn Tryz.prog 192 6 := tqN
instance : Zd Tryz.prog 192 80 := tqB
instance : Zg Tryz.prog 192 (.agg ⟨[.bool false, .int .i64 0, .slice none 0 0, .slice none 0 0, .int .u64 0, .int .u64 0]⟩) := tqO
instance : Zt Tryz.prog 192 := ⟨by kernel_rfl⟩
instance : YU Tryz.prog 192 [(0, 4), (1, 104), (4, 33), (5, 33)] := Yg (by kernel_rfl)
instance : ZF Tryz.prog 192 0 0 4 := ZI
instance : ZF Tryz.prog 192 1 1 104 := ZI
instance : ZF Tryz.prog 192 2 4 33 := ZI
instance : ZF Tryz.prog 192 3 5 33 := ZI
instance : Zq Tryz.prog 192 (([(0, 1), (1, 3), (4, 1), (5, 1)] : List (Nat × Nat))[·]?) := Zk (by kernel_rfl)
instance : TyS Tryz.prog 200 := tqS
instance : Ze Tryz.prog 200 false := tqI
instance : ZL Tryz.prog 200 := tqF
instance : Zn Tryz.prog 200 1 := tqN
instance : Zd Tryz.prog 200 8 := tqB
instance : Zg Tryz.prog 200 (.nilFunc) := tqO
instance : TyS Tryz.prog 208 := tqS
instance : Ze Tryz.prog 208 false := tqI
instance : ZL Tryz.prog 208 := tqF
instance : Zn Tryz.prog 208 1 := tqN
instance : Zd Tryz.prog 208 8 := tqB
instance : Zg Tryz.prog 208 (.nilFunc) := tqO
instance : TyA Tryz.prog 211 3 := tqA
instance : Ze Tryz.prog 211 false := tqI
instance : Zn Tryz.prog 211 3 := tqN
instance : Zd Tryz.prog 211 24 := tqB
instance : Zg Tryz.prog 211 (.agg ⟨[.int .i64 0, .int .u16 0, .int .i64 0]⟩) := tqO
instance : Zt Tryz.prog 211 := ⟨by kernel_rfl⟩
instance : ZF Tryz.prog 211 0 0 129 := ZI
instance : ZF Tryz.prog 211 1 2 3 := ZI
instance : Zq Tryz.prog 211 (([(0, 2), (2, 1)] : List (Nat × Nat))[·]?) := Zk (by kernel_rfl)
instance : TyA Tryz.prog 212 3 := tqA
instance : Ze Tryz.prog 212 false := tqI
instance : Zn Tryz.prog 212 3 := tqN
instance : Zd Tryz.prog 212 24 := tqB
instance : Zg Tryz.prog 212 (.agg ⟨[.int .i64 0, .int .u16 0, .int .i64 0]⟩) := tqO
instance : Zt Tryz.prog 212 := ⟨by kernel_rfl⟩
instance : YU Tryz.prog 212 [(0, 129), (2, 3)] := Yg (by kernel_rfl)
instance : ZF Tryz.prog 212 0 0 129 := ZI
instance : ZF Tryz.prog 212 1 2 3 := ZI
instance : Zq Tryz.prog 212 (([(0, 2), (2, 1)] : List (Nat × Nat))[·]?) := Zk (by kernel_rfl)
instance : TyA Tryz.prog 215 128 := tqA
instance : Ze Tryz.prog 215 false := tqI
instance : Zn Tryz.prog 215 128 := tqN
instance : Zd Tryz.prog 215 128 := tqB
instance : Zg Tryz.prog 215 (.agg ⟨List.replicate 128 (.int .u8 0)⟩) := tqO
instance : Zt Tryz.prog 215 := ⟨by kernel_rfl⟩
instance : TyArr Tryz.prog 215 2 117 := ⟨by kernel_rfl⟩
instance : Zq Tryz.prog 215 (fun i => some (i * 64, 64)) := mkTyPlacesA (n := 2) (e := 117) (by kernel_rfl) (by kernel_rfl)
instance : TyS Tryz.prog 217 := tqS
instance : Ze Tryz.prog 217 false := tqI
instance : ZL Tryz.prog 217 := tqF
instance : Zn Tryz.prog 217 1 := tqN
instance : Zd Tryz.prog 217 8 := tqB
instance : Zg Tryz.prog 217 (.nilFunc) := tqO
instance : TyS Tryz.prog 221 := tqS
instance : Ze Tryz.prog 221 false := tqI
instance : Zn Tryz.prog 221 1 := tqN
instance : Zd Tryz.prog 221 8 := tqB
instance : Zg Tryz.prog 221 (.pointer none) := tqO
instance : TyPtr Tryz.prog 221 225 := ⟨by kernel_rfl⟩
instance : TyS Tryz.prog 222 := tqS
instance : Ze Tryz.prog 222 false := tqI
instance : Zn Tryz.prog 222 1 := tqN
instance : Zd Tryz.prog 222 8 := tqB
instance : Zg Tryz.prog 222 (.pointer none) := tqO
instance : TyPtr Tryz.prog 222 271 := ⟨by kernel_rfl⟩
instance : TyA Tryz.prog 224 13 := tqA
instance : Ze Tryz.prog 224 false := tqI
instance : Zn Tryz.prog 224 13 := tqN
instance : Zd Tryz.prog 224 184 := tqB
instance : Zg Tryz.prog 224 (.agg ⟨[.pointer none, .slice none 0 0, .int .i64 0, .int .u64 0, .int .i64 0, .int .u64 0, .int .u64 0, .slice none 0 0, .slice none 0 0, .int .i64 0, .slice none 0 0, .slice none 0 0, .bool false]⟩) := tqO
instance : Zt Tryz.prog 224 := ⟨by kernel_rfl⟩
instance : ZF Tryz.prog 224 0 0 222 := ZI
instance : ZF Tryz.prog 224 1 1 22 := ZI
instance : ZF Tryz.prog 224 2 2 39 := ZI
instance : ZF Tryz.prog 224 3 12 4 := ZI
instance : Zq Tryz.prog 224 (([(0, 1), (1, 1), (2, 10), (12, 1)] : List (Nat × Nat))[·]?) := Zk (by kernel_rfl)
instance : TyA Tryz.prog 225 13 := tqA
instance : Ze Tryz.prog 225 false := tqI
instance : Zn Tryz.prog 225 13 := tqN
instance : Zd Tryz.prog 225 184 := tqB
instance : Zg Tryz.prog 225 (.agg ⟨[.pointer none, .slice none 0 0, .int .i64 0, .int .u64 0, .int .i64 0, .int .u64 0, .int .u64 0, .slice none 0 0, .slice none 0 0, .int .i64 0, .slice none 0 0, .slice none 0 0, .bool false]⟩) := tqO
instance : Zt Tryz.prog 225 := ⟨by kernel_rfl⟩
instance : YU Tryz.prog 225 [(0, 222), (1, 22), (2, 39), (12, 4)] := Yg (by kernel_rfl)
instance : ZF Tryz.prog 225 0 0 222 := ZI
instance : ZF Tryz.prog 225 1 1 22 := ZI
instance : ZF Tryz.prog 225 2 2 39 := ZI
instance : ZF Tryz.prog 225 3 12 4 := ZI
instance : Zq Tryz.prog 225 (([(0, 1), (1, 1), (2, 10), (12, 1)] : List (Nat × Nat))[·]?) := Zk (by kernel_rfl)
instance : TyS Tryz.prog 227 := tqS
instance : Ze Tryz.prog 227 false := tqI
instance : Zn Tryz.prog 227 1 := tqN
instance : Zd Tryz.prog 227 4 := tqB
instance : Zg Tryz.prog 227 (.int .u32 0) := tqO
instance : YH Tryz.prog 227 .u32 := ⟨by kernel_rfl⟩
instance : TyS Tryz.prog 229 := tqS
instance : Ze Tryz.prog 229 false := tqI
instance : Zn Tryz.prog 229 1 := tqN
instance : Zd Tryz.prog 229 8 := tqB
instance : Zg Tryz.prog 229 (.map none) := tqO
instance : TyMap Tryz.prog 229 3 1 := ⟨by kernel_rfl⟩
instance : TyS Tryz.prog 233 := tqS
instance : Ze Tryz.prog 233 false := tqI
instance : Zn Tryz.prog 233 1 := tqN
instance : Zd Tryz.prog 233 24 := tqB
instance : Zg Tryz.prog 233 (.slice none 0 0) := tqO
instance : ZD Tryz.prog 233 33 := ⟨by kernel_rfl⟩
instance : TyS Tryz.prog 236 := tqS
instance : Ze Tryz.prog 236 false := tqI
instance : ZL Tryz.prog 236 := tqF
instance : Zn Tryz.prog 236 1 := tqN
instance : Zd Tryz.prog 236 8 := tqB
instance : Zg Tryz.prog 236 (.nilFunc) := tqO
instance : TyA Tryz.prog 238 5 := tqA
instance : Ze Tryz.prog 238 false := tqI
instance : Zn Tryz.prog 238 5 := tqN
instance : Zd Tryz.prog 238 72 := tqB
instance : Zg Tryz.prog 238 (.agg ⟨[.int .i64 0, .slice none 0 0, .slice none 0 0, .int .u64 0, .int .u64 0]⟩) := tqO
instance : Zt Tryz.prog 238 := ⟨by kernel_rfl⟩
instance : ZF Tryz.prog 238 0 0 104 := ZI
instance : ZF Tryz.prog 238 1 3 33 := ZI
instance : ZF Tryz.prog 238 2 4 33 := ZI
instance : Zq Tryz.prog 238 (([(0, 3), (3, 1), (4, 1)] : List (Nat × Nat))[·]?) := Zk (by kernel_rfl)
instance : TyA Tryz.prog 239 5 := tqA
instance : Ze Tryz.prog 239 false := tqI
instance : Zn Tryz.prog 239 5 := tqN
instance : Zd Tryz.prog 239 72 := tqB
instance : Zg Tryz.prog 239 (.agg ⟨[.int .i64 0, .slice none 0 0, .slice none 0 0, .int .u64 0, .int .u64 0]⟩) := tqO
instance : Zt Tryz.prog 239 := ⟨by kernel_rfl⟩
instance : YU Tryz.prog 239 [(0, 104), (3, 33), (4, 33)] := Yg (by kernel_rfl)
instance : ZF Tryz.prog 239 0 0 104 := ZI
instance : ZF Tryz.prog 239 1 3 33 := ZI
instance : ZF Tryz.prog 239 2 4 33 := ZI
instance : Zq Tryz.prog 239 (([(0, 3), (3, 1), (4, 1)] : List (Nat × Nat))[·]?) := Zk (by kernel_rfl)
instance : TyS Tryz.prog 240 := tqS
instance : Ze Tryz.prog 240 false := tqI
instance : Zn Tryz.prog 240 1 := tqN
instance : Zd Tryz.prog 240 8 := tqB
instance : Zg Tryz.prog 240 (.map none) := tqO
instance : TyMap Tryz.prog 240 3 239 := ⟨by kernel_rfl⟩
instance : TyA Tryz.prog 241 3 := tqA
instance : Ze Tryz.prog 241 false := tqI
instance : Zn Tryz.prog 241 3 := tqN
instance : Zd Tryz.prog 241 24 := tqB
instance : Zg Tryz.prog 241 (.agg ⟨[.pointer none, .pointer none, .map none]⟩) := tqO
instance : Zt Tryz.prog 241 := ⟨by kernel_rfl⟩
instance : ZF Tryz.prog 241 0 0 94 := ZI
instance : ZF Tryz.prog 241 1 1 52 := ZI
instance : ZF Tryz.prog 241 2 2 240 := ZI
instance : Zq Tryz.prog 241 (([(0, 1), (1, 1), (2, 1)] : List (Nat × Nat))[·]?) := Zk (by kernel_rfl)
instance : TyA Tryz.prog 242 3 := tqA
instance : Ze Tryz.prog 242 false := tqI
instance : Zn Tryz.prog 242 3 := tqN
instance : Zd Tryz.prog 242 24 := tqB
instance : Zg Tryz.prog 242 (.agg ⟨[.pointer none, .pointer none, .map none]⟩) := tqO
instance : Zt Tryz.prog 242 := ⟨by kernel_rfl⟩
instance : YU Tryz.prog 242 [(0, 94), (1, 52), (2, 240)] := Yg (by kernel_rfl)
instance : ZF Tryz.prog 242 0 0 94 := ZI
instance : ZF Tryz.prog 242 1 1 52 := ZI
instance : ZF Tryz.prog 242 2 2 240 := ZI
instance : Zq Tryz.prog 242 (([(0, 1), (1, 1), (2, 1)] : List (Nat × Nat))[·]?) := Zk (by kernel_rfl)
instance : TyA Tryz.prog 257 2 := tqA
instance : Ze Tryz.prog 257 false := tqI
instance : Zn Tryz.prog 257 2 := tqN
instance : Zd Tryz.prog 257 16 := tqB
instance : Zg Tryz.prog 257 (.agg ⟨[.pointer none, .int .i64 0]⟩) := tqO
instance : Zt Tryz.prog 257 := ⟨by kernel_rfl⟩
instance : ZF Tryz.prog 257 0 0 26 := ZI
instance : ZF Tryz.prog 257 1 1 3 := ZI
instance : Zq Tryz.prog 257 (([(0, 1), (1, 1)] : List (Nat × Nat))[·]?) := Zk (by kernel_rfl)
instance : TyA Tryz.prog 258 2 := tqA
instance : Ze Tryz.prog 258 false := tqI
instance : Zn Tryz.prog 258 2 := tqN
instance : Zd Tryz.prog 258 16 := tqB
instance : Zg Tryz.prog 258 (.agg ⟨[.pointer none, .int .i64 0]⟩) := tqO
instance : Zt Tryz.prog 258 := ⟨by kernel_rfl⟩
instance : YU Tryz.prog 258 [(0, 26), (1, 3)] := Yg (by kernel_rfl)
instance : ZF Tryz.prog 258 0 0 26 := ZI
instance : ZF Tryz.prog 258 1 1 3 := ZI
instance : Zq Tryz.prog 258 (([(0, 1), (1, 1)] : List (Nat × Nat))[·]?) := Zk (by kernel_rfl)
instance : TyS Tryz.prog 269 := tqS
instance : Ze Tryz.prog 269 false := tqI
instance : Zn Tryz.prog 269 1 := tqN
instance : Zd Tryz.prog 269 24 := tqB
instance : Zg Tryz.prog 269 (.slice none 0 0) := tqO
instance : ZD Tryz.prog 269 5 := ⟨by kernel_rfl⟩
instance : TyA Tryz.prog 270 2 := tqA
instance : Ze Tryz.prog 270 false := tqI
instance : Zn Tryz.prog 270 2 := tqN
instance : Zd Tryz.prog 270 32 := tqB
instance : Zg Tryz.prog 270 (.agg ⟨[.slice none 0 0, .int .i64 0]⟩) := tqO
instance : Zt Tryz.prog 270 := ⟨by kernel_rfl⟩
instance : ZF Tryz.prog 270 0 0 269 := ZI
instance : ZF Tryz.prog 270 1 1 27 := ZI
instance : Zq Tryz.prog 270 (([(0, 1), (1, 1)] : List (Nat × Nat))[·]?) := Zk (by kernel_rfl)
instance : TyA Tryz.prog 271 2 := tqA
instance : Ze Tryz.prog 271 false := tqI
instance : Zn Tryz.prog 271 2 := tqN
instance : Zd Tryz.prog 271 32 := tqB
instance : Zg Tryz.prog 271 (.agg ⟨[.slice none 0 0, .int .i64 0]⟩) := tqO
instance : Zt Tryz.prog 271 := ⟨by kernel_rfl⟩
instance : YU Tryz.prog 271 [(0, 269), (1, 27)] := Yg (by kernel_rfl)
instance : ZF Tryz.prog 271 0 0 269 := ZI
instance : ZF Tryz.prog 271 1 1 27 := ZI
instance : Zq Tryz.prog 271 (([(0, 1), (1, 1)] : List (Nat × Nat))[·]?) := Zk (by kernel_rfl)
instance : TyS Tryz.prog 275 := tqS
instance : Ze Tryz.prog 275 false := tqI
instance : ZL Tryz.prog 275 := tqF
instance : Zn Tryz.prog 275 1 := tqN
instance : Zd Tryz.prog 275 8 := tqB
instance : Zg Tryz.prog 275 (.nilFunc) := tqO
instance : TyS Tryz.prog 276 := tqS
instance : Ze Tryz.prog 276 false := tqI
instance : ZL Tryz.prog 276 := tqF
instance : Zn Tryz.prog 276 1 := tqN
instance : Zd Tryz.prog 276 8 := tqB
instance : Zg Tryz.prog 276 (.nilFunc) := tqO
instance : TyS Tryz.prog 279 := tqS
instance : Ze Tryz.prog 279 false := tqI
instance : ZL Tryz.prog 279 := tqF
instance : Zn Tryz.prog 279 1 := tqN
instance : Zd Tryz.prog 279 8 := tqB
instance : Zg Tryz.prog 279 (.nilFunc) := tqO
instance : TyS Tryz.prog 281 := tqS
instance : Ze Tryz.prog 281 false := tqI
instance : ZL Tryz.prog 281 := tqF
instance : Zn Tryz.prog 281 1 := tqN
instance : Zd Tryz.prog 281 8 := tqB
instance : Zg Tryz.prog 281 (.nilFunc) := tqO
instance : TyS Tryz.prog 283 := tqS
instance : Ze Tryz.prog 283 false := tqI
instance : ZL Tryz.prog 283 := tqF
instance : Zn Tryz.prog 283 1 := tqN
instance : Zd Tryz.prog 283 8 := tqB
instance : Zg Tryz.prog 283 (.nilFunc) := tqO
instance : TyS Tryz.prog 285 := tqS
instance : Ze Tryz.prog 285 false := tqI
instance : ZL Tryz.prog 285 := tqF
instance : Zn Tryz.prog 285 1 := tqN
instance : Zd Tryz.prog 285 8 := tqB
instance : Zg Tryz.prog 285 (.nilFunc) := tqO
instance : TyS Tryz.prog 286 := tqS
instance : Ze Tryz.prog 286 false := tqI
instance : Zn Tryz.prog 286 1 := tqN
instance : Zd Tryz.prog 286 8 := tqB
instance : Zg Tryz.prog 286 (.pointer none) := tqO
instance : TyPtr Tryz.prog 286 288 := ⟨by kernel_rfl⟩
instance : TyA Tryz.prog 287 10 := tqA
instance : Ze Tryz.prog 287 false := tqI
instance : Zn Tryz.prog 287 10 := tqN
instance : Zd Tryz.prog 287 144 := tqB
instance : Zg Tryz.prog 287 (.agg ⟨[.int .i64 0, .int .u64 0, .int .i64 0, .int .u64 0, .int .u64 0, .slice none 0 0, .slice none 0 0, .int .i64 0, .slice none 0 0, .slice none 0 0]⟩) := tqO
instance : Zt Tryz.prog 287 := ⟨by kernel_rfl⟩
instance : ZF Tryz.prog 287 0 0 39 := ZI
instance : Zq Tryz.prog 287 (([(0, 10)] : List (Nat × Nat))[·]?) := Zk (by kernel_rfl)
instance : TyA Tryz.prog 288 10 := tqA
instance : Ze Tryz.prog 288 false := tqI
instance : Zn Tryz.prog 288 10 := tqN
instance : Zd Tryz.prog 288 144 := tqB
instance : Zg Tryz.prog 288 (.agg ⟨[.int .i64 0, .int .u64 0, .int .i64 0, .int .u64 0, .int .u64 0, .slice none 0 0, .slice none 0 0, .int .i64 0, .slice none 0 0, .slice none 0 0]⟩) := tqO
instance : Zt Tryz.prog 288 := ⟨by kernel_rfl⟩
instance : YU Tryz.prog 288 [(0, 39)] := Yg (by kernel_rfl)
instance : ZF Tryz.prog 288 0 0 39 := ZI
instance : Zq Tryz.prog 288 (([(0, 10)] : List (Nat × Nat))[·]?) := Zk (by kernel_rfl)
instance : TyS Tryz.prog 289 := tqS
instance : Ze Tryz.prog 289 false := tqI
instance : Zn Tryz.prog 289 1 := tqN
instance : Zd Tryz.prog 289 8 := tqB
instance : Zg Tryz.prog 289 (.map none) := tqO
instance : TyMap Tryz.prog 289 3 25 := ⟨by kernel_rfl⟩
instance : TyS Tryz.prog 294 := tqS
instance : Ze Tryz.prog 294 false := tqI
instance : Zn Tryz.prog 294 1 := tqN
instance : Zd Tryz.prog 294 8 := tqB
instance : Zg Tryz.prog 294 (.pointer none) := tqO
instance : TyPtr Tryz.prog 294 296 := ⟨by kernel_rfl⟩
instance : TyA Tryz.prog 295 11 := tqA
instance : Ze Tryz.prog 295 false := tqI
instance : Zn Tryz.prog 295 11 := tqN
instance : Zd Tryz.prog 295 168 := tqB
instance : Zg Tryz.prog 295 (.agg ⟨[.int .i64 0, .int .u64 0, .int .i64 0, .int .u64 0, .int .u64 0, .slice none 0 0, .slice none 0 0, .int .i64 0, .slice none 0 0, .slice none 0 0, .slice none 0 0]⟩) := tqO
instance : Zt Tryz.prog 295 := ⟨by kernel_rfl⟩
instance : ZF Tryz.prog 295 0 0 39 := ZI
instance : ZF Tryz.prog 295 1 10 22 := ZI
instance : Zq Tryz.prog 295 (([(0, 10), (10, 1)] : List (Nat × Nat))[·]?) := Zk (by kernel_rfl)
instance : TyA Tryz.prog 296 11 := tqA
instance : Ze Tryz.prog 296 false := tqI
instance : Zn Tryz.prog 296 11 := tqN
instance : Zd Tryz.prog 296 168 := tqB
instance : Zg Tryz.prog 296 (.agg ⟨[.int .i64 0, .int .u64 0, .int .i64 0, .int .u64 0, .int .u64 0, .slice none 0 0, .slice none 0 0, .int .i64 0, .slice none 0 0, .slice none 0 0, .slice none 0 0]⟩) := tqO
instance : Zt Tryz.prog 296 := ⟨by kernel_rfl⟩
instance : YU Tryz.prog 296 [(0, 39), (10, 22)] := Yg (by kernel_rfl)
instance : ZF Tryz.prog 296 0 0 39 := ZI
instance : ZF Tryz.prog 296 1 10 22 := ZI
instance : Zq Tryz.prog 296 (([(0, 10), (10, 1)] : List (Nat × Nat))[·]?) := Zk (by kernel_rfl)
instance : TyS Tryz.prog 317 := tqS
instance : Ze Tryz.prog 317 false := tqI
instance : Zn Tryz.prog 317 1 := tqN
instance : Zd Tryz.prog 317 8 := tqB
instance : Zg Tryz.prog 317 (.pointer none) := tqO
instance : TyPtr Tryz.prog 317 3 := ⟨by kernel_rfl⟩
instance : TyS Tryz.prog 322 := tqS
instance : Ze Tryz.prog 322 false := tqI
instance : Zn Tryz.prog 322 1 := tqN
instance : Zd Tryz.prog 322 8 := tqB
instance : Zg Tryz.prog 322 (.pointer none) := tqO
instance : TyPtr Tryz.prog 322 352 := ⟨by kernel_rfl⟩
instance : TyS Tryz.prog 328 := tqS
instance : Ze Tryz.prog 328 false := tqI
instance : ZL Tryz.prog 328 := tqF
instance : Zn Tryz.prog 328 1 := tqN
instance : Zd Tryz.prog 328 8 := tqB
instance : Zg Tryz.prog 328 (.nilFunc) := tqO
instance : TyS Tryz.prog 331 := tqS
instance : Ze Tryz.prog 331 false := tqI
instance : ZL Tryz.prog 331 := tqF
instance : Zn Tryz.prog 331 1 := tqN
instance : Zd Tryz.prog 331 8 := tqB
instance : Zg Tryz.prog 331 (.nilFunc) := tqO
instance : TyS Tryz.prog 332 := tqS
instance : Ze Tryz.prog 332 false := tqI
instance : ZL Tryz.prog 332 := tqF
instance : Zn Tryz.prog 332 1 := tqN
instance : Zd Tryz.prog 332 8 := tqB
instance : Zg Tryz.prog 332 (.nilFunc) := tqO
instance : TyS Tryz.prog 334 := tqS
instance : Ze Tryz.prog 334 false := tqI
instance : ZL Tryz.prog 334 := tqF
instance : Zn Tryz.prog 334 1 := tqN
instance : Zd Tryz.prog 334 8 := tqB
instance : Zg Tryz.prog 334 (.nilFunc) := tqO
instance : TyS Tryz.prog 335 := tqS
instance : Ze Tryz.prog 335 false := tqI
instance : ZL Tryz.prog 335 := tqF
instance : Zn Tryz.prog 335 1 := tqN
instance : Zd Tryz.prog 335 8 := tqB
instance : Zg Tryz.prog 335 (.nilFunc) := tqO
instance : TyS Tryz.prog 343 := tqS
instance : Ze Tryz.prog 343 false := tqI
instance : Zn Tryz.prog 343 1 := tqN
instance : Zd Tryz.prog 343 8 := tqB
instance : Zg Tryz.prog 343 (.map none) := tqO
instance : TyMap Tryz.prog 343 3 4 := ⟨by kernel_rfl⟩
instance : TyA Tryz.prog 351 6 := tqA
instance : Ze Tryz.prog 351 false := tqI
instance : Zn Tryz.prog 351 6 := tqN
instance : Zd Tryz.prog 351 80 := tqB
instance : Zg Tryz.prog 351 (.agg ⟨[.pointer none, .int .i64 0, .bool false, .int .i64 0, .slice none 0 0, .slice none 0 0]⟩) := tqO
instance : Zt Tryz.prog 351 := ⟨by kernel_rfl⟩
instance : ZF Tryz.prog 351 0 0 222 := ZI
instance : ZF Tryz.prog 351 1 1 3 := ZI
instance : ZF Tryz.prog 351 2 2 4 := ZI
instance : ZF Tryz.prog 351 3 3 104 := ZI
instance : Zq Tryz.prog 351 (([(0, 1), (1, 1), (2, 1), (3, 3)] : List (Nat × Nat))[·]?) := Zk (by kernel_rfl)
instance : TyA Tryz.prog 352 6 := tqA
instance : Ze Tryz.prog 352 false := tqI
instance : Zn Tryz.prog 352 6 := tqN
instance : Zd Tryz.prog 352 80 := tqB
instance : Zg Tryz.prog 352 (.agg ⟨[.pointer none, .int .i64 0, .bool false, .int .i64 0, .slice none 0 0, .slice none 0 0]⟩) := tqO
instance : Zt Tryz.prog 352 := ⟨by kernel_rfl⟩
instance : YU Tryz.prog 352 [(0, 222), (1, 3), (2, 4), (3, 104)] := Yg (by kernel_rfl)
instance : ZF Tryz.prog 352 0 0 222 := ZI
instance : ZF Tryz.prog 352 1 1 3 := ZI
instance : ZF Tryz.prog 352 2 2 4 := ZI
instance : ZF Tryz.prog 352 3 3 104 := ZI
instance : Zq Tryz.prog 352 (([(0, 1), (1, 1), (2, 1), (3, 3)] : List (Nat × Nat))[·]?) := Zk (by kernel_rfl)
instance : TyS Tryz.prog 355 := tqS
instance : Ze Tryz.prog 355 false := tqI
instance : ZL Tryz.prog 355 := tqF
instance : Zn Tryz.prog 355 1 := tqN
instance : Zd Tryz.prog 355 8 := tqB
instance : Zg Tryz.prog 355 (.nilFunc) := tqO
instance : TyS Tryz.prog 356 := tqS
instance : Ze Tryz.prog 356 false := tqI
instance : ZL Tryz.prog 356 := tqF
instance : Zn Tryz.prog 356 1 := tqN
instance : Zd Tryz.prog 356 8 := tqB
instance : Zg Tryz.prog 356 (.nilFunc) := tqO
instance : TyS Tryz.prog 362 := tqS
instance : Ze Tryz.prog 362 false := tqI
instance : ZL Tryz.prog 362 := tqF
instance : Zn Tryz.prog 362 1 := tqN
instance : Zd Tryz.prog 362 8 := tqB
instance : Zg Tryz.prog 362 (.nilFunc) := tqO
instance : TyS Tryz.prog 363 := tqS
instance : Ze Tryz.prog 363 false := tqI
instance : ZL Tryz.prog 363 := tqF
instance : Zn Tryz.prog 363 1 := tqN
instance : Zd Tryz.prog 363 8 := tqB
instance : Zg Tryz.prog 363 (.nilFunc) := tqO
instance : TyS Tryz.prog 365 := tqS
instance : Ze Tryz.prog 365 false := tqI
instance : ZL Tryz.prog 365 := tqF
instance : Zn Tryz.prog 365 1 := tqN
instance : Zd Tryz.prog 365 8 := tqB
instance : Zg Tryz.prog 365 (.nilFunc) := tqO
instance : TyS Tryz.prog 366 := tqS
instance : Ze Tryz.prog 366 false := tqI
instance : ZL Tryz.prog 366 := tqF
instance : Zn Tryz.prog 366 1 := tqN
instance : Zd Tryz.prog 366 8 := tqB
instance : Zg Tryz.prog 366 (.nilFunc) := tqO
instance : TyS Tryz.prog 375 := tqS
instance : Ze Tryz.prog 375 false := tqI
instance : ZL Tryz.prog 375 := tqF
instance : Zn Tryz.prog 375 1 := tqN
instance : Zd Tryz.prog 375 8 := tqB
instance : Zg Tryz.prog 375 (.nilFunc) := tqO
instance : TyS Tryz.prog 390 := tqS
instance : Ze Tryz.prog 390 false := tqI
instance : ZL Tryz.prog 390 := tqF
instance : Zn Tryz.prog 390 1 := tqN
instance : Zd Tryz.prog 390 8 := tqB
instance : Zg Tryz.prog 390 (.nilFunc) := tqO
instance : TyS Tryz.prog 391 := tqS
instance : Ze Tryz.prog 391 false := tqI
instance : Zn Tryz.prog 391 1 := tqN
instance : Zd Tryz.prog 391 8 := tqB
instance : Zg Tryz.prog 391 (.pointer none) := tqO
instance : TyPtr Tryz.prog 391 5 := ⟨by kernel_rfl⟩
instance : TyA Tryz.prog 394 11 := tqA
instance : Ze Tryz.prog 394 false := tqI
instance : Zn Tryz.prog 394 11 := tqN
instance : Zd Tryz.prog 394 48 := tqB
instance : Zg Tryz.prog 394 (.agg ⟨[.int .u64 0, .int .u64 0, .int .u32 0, .int .u8 0, .int .u8 0, .int .u8 0, .int .u8 0, .nilFunc, .pointer none, .int .i32 0, .int .i32 0]⟩) := tqO
instance : Zt Tryz.prog 394 := ⟨by kernel_rfl⟩
instance : ZF Tryz.prog 394 0 0 12 := ZI
instance : ZF Tryz.prog 394 1 1 12 := ZI
instance : ZF Tryz.prog 394 2 2 227 := ZI
instance : ZF Tryz.prog 394 3 3 388 := ZI
instance : ZF Tryz.prog 394 4 4 5 := ZI
instance : ZF Tryz.prog 394 5 5 5 := ZI
instance : ZF Tryz.prog 394 6 6 389 := ZI
instance : ZF Tryz.prog 394 7 7 390 := ZI
instance : ZF Tryz.prog 394 8 8 391 := ZI
instance : ZF Tryz.prog 394 9 9 392 := ZI
instance : ZF Tryz.prog 394 10 10 393 := ZI
instance : Zq Tryz.prog 394 (([(0, 1), (1, 1), (2, 1), (3, 1), (4, 1), (5, 1), (6, 1), (7, 1), (8, 1), (9, 1), (10, 1)] : List (Nat × Nat))[·]?) := Zk (by kernel_rfl)
instance : ZK Tryz.prog 4 := ZS
instance : ZK Tryz.prog 7 := ZS
instance : ZK Tryz.prog 8 := ZS
instance : ZK Tryz.prog 9 := ZS
instance : ZK Tryz.prog 10 := ZS
instance : ZK Tryz.prog 12 := ZS
instance : ZK Tryz.prog 14 := ZS
instance : ZK Tryz.prog 15 := ZS
instance : ZK Tryz.prog 17 := ZS
instance : ZK Tryz.prog 20 := ZS
instance : ZK Tryz.prog 21 := ZS
instance : ZK Tryz.prog 22 := ZS
instance : ZK Tryz.prog 23 := ZS
instance : ZK Tryz.prog 24 := ZS
instance : ZK Tryz.prog 25 := ZS
instance : ZK Tryz.prog 26 := ZS
instance : ZK Tryz.prog 27 := ZS
instance : ZK Tryz.prog 28 := ZS
instance : ZK Tryz.prog 29 := ZS
instance : ZK Tryz.prog 30 := ZS
instance : ZK Tryz.prog 31 := ZS
instance : ZK Tryz.prog 32 := ZS
instance : ZK Tryz.prog 52 := ZS
instance : ZK Tryz.prog 53 := ZS
instance : ZK Tryz.prog 54 := ZS
instance : ZK Tryz.prog 55 := ZS
instance : ZK Tryz.prog 56 := ZS
instance : ZK Tryz.prog 61 := ZS
instance : ZK Tryz.prog 62 := ZS
instance : ZK Tryz.prog 63 := ZS
instance : ZK Tryz.prog 64 := ZS
instance : ZK Tryz.prog 65 := ZS
instance : ZK Tryz.prog 66 := ZS
instance : ZK Tryz.prog 70 := ZS
instance : ZK Tryz.prog 73 := ZS
instance : ZK Tryz.prog 74 := ZS
instance : ZK Tryz.prog 75 := ZS
instance : ZK Tryz.prog 76 := ZS
instance : ZK Tryz.prog 77 := ZS
instance : ZK Tryz.prog 78 := ZS
instance : ZK Tryz.prog 79 := ZS
instance : ZK Tryz.prog 87 := ZS
instance : ZK Tryz.prog 88 := ZS
instance : ZK Tryz.prog 89 := ZS
instance : ZK Tryz.prog 90 := ZS
instance : ZK Tryz.prog 91 := ZS
instance : ZK Tryz.prog 92 := ZS
instance : ZK Tryz.prog 93 := ZS
instance : ZK Tryz.prog 94 := ZS
instance : ZK Tryz.prog 95 := ZS
instance : ZK Tryz.prog 96 := ZS
instance : ZK Tryz.prog 100 := ZS
instance : ZK Tryz.prog 101 := ZS
instance : ZK Tryz.prog 123 := ZS
instance : ZK Tryz.prog 124 := ZS
instance : ZK Tryz.prog 125 := ZS
instance : ZK Tryz.prog 126 := ZS
instance : ZK Tryz.prog 130 := ZS
instance : ZK Tryz.prog 131 := ZS
instance : ZK Tryz.prog 135 := ZS
instance : ZK Tryz.prog 136 := ZS
instance : ZK Tryz.prog 137 := ZS
instance : ZK Tryz.prog 138 := ZS
instance : ZK Tryz.prog 139 := ZS
instance : ZK Tryz.prog 140 := ZS
instance : ZK Tryz.prog 141 := ZS
instance : ZK Tryz.prog 142 := ZS
instance : ZK Tryz.prog 143 := ZS
instance : ZK Tryz.prog 144 := ZS
instance : ZK Tryz.prog 145 := ZS
instance : ZK Tryz.prog 146 := ZS
instance : ZK Tryz.prog 147 := ZS
instance : ZK Tryz.prog 148 := ZS
instance : ZK Tryz.prog 149 := ZS
instance : ZK Tryz.prog 150 := ZS
instance : ZK Tryz.prog 153 := ZS
instance : ZK Tryz.prog 154 := ZS
instance : ZK Tryz.prog 155 := ZS
instance : ZK Tryz.prog 156 := ZS
instance : ZK Tryz.prog 158 := ZS
instance : ZK Tryz.prog 175 := ZS
instance : ZK Tryz.prog 176 := ZS
instance : ZK Tryz.prog 177 := ZS
instance : ZK Tryz.prog 178 := ZS
instance : ZK Tryz.prog 179 := ZS
instance : ZK Tryz.prog 180 := ZS
instance : ZK Tryz.prog 181 := ZS
instance : ZK Tryz.prog 185 := ZS
instance : ZK Tryz.prog 186 := ZS
instance : ZK Tryz.prog 187 := ZS
instance : ZK Tryz.prog 188 := ZS
instance : ZK Tryz.prog 189 := ZS
instance : ZK Tryz.prog 190 := ZS
instance : ZK Tryz.prog 191 := ZS
instance : ZK Tryz.prog 192 := ZS
instance : ZK Tryz.prog 193 := ZS
instance : ZK Tryz.prog 194 := ZS
instance : ZK Tryz.prog 195 := ZS
instance : ZK Tryz.prog 196 := ZS
instance : ZK Tryz.prog 197 := ZS
instance : ZK Tryz.prog 198 := ZS
instance : ZK Tryz.prog 199 := ZS
instance : ZK Tryz.prog 200 := ZS
instance : ZK Tryz.prog 201 := ZS
instance : ZK Tryz.prog 202 := ZS
instance : ZK Tryz.prog 203 := ZS
instance : ZK Tryz.prog 204 := ZS
instance : ZK Tryz.prog 205 := ZS
instance : ZK Tryz.prog 206 := ZS
instance : ZK Tryz.prog 207 := ZS
instance : ZK Tryz.prog 208 := ZS
instance : ZK Tryz.prog 209 := ZS
instance : ZK Tryz.prog 210 := ZS
instance : ZK Tryz.prog 211 := ZS
instance : ZK Tryz.prog 215 := ZS
instance : ZK Tryz.prog 216 := ZS
instance : ZK Tryz.prog 217 := ZS
instance : ZK Tryz.prog 218 := ZS
instance : ZK Tryz.prog 219 := ZS
instance : ZK Tryz.prog 220 := ZS
instance : ZK Tryz.prog 221 := ZS
instance : ZK Tryz.prog 222 := ZS
instance : ZK Tryz.prog 223 := ZS
instance : ZK Tryz.prog 224 := ZS
instance : ZK Tryz.prog 236 := ZS
instance : ZK Tryz.prog 239 := ZS
instance : ZK Tryz.prog 240 := ZS
instance : ZK Tryz.prog 241 := ZS
instance : ZK Tryz.prog 242 := ZS
instance : ZK Tryz.prog 243 := ZS
instance : ZK Tryz.prog 244 := ZS
instance : ZK Tryz.prog 245 := ZS
instance : ZK Tryz.prog 246 := ZS
instance : ZK Tryz.prog 247 := ZS
instance : ZK Tryz.prog 248 := ZS
instance : ZK Tryz.prog 249 := ZS
instance : ZK Tryz.prog 250 := ZS
instance : ZK Tryz.prog 251 := ZS
instance : ZK Tryz.prog 252 := ZS
instance : ZK Tryz.prog 253 := ZS
instance : ZK Tryz.prog 254 := ZS
instance : ZK Tryz.prog 255 := ZS
instance : ZK Tryz.prog 256 := ZS
instance : ZK Tryz.prog 257 := ZS
instance : ZK Tryz.prog 258 := ZS
instance : ZK Tryz.prog 261 := ZS
instance : ZK Tryz.prog 262 := ZS
instance : ZK Tryz.prog 263 := ZS
instance : ZK Tryz.prog 264 := ZS
instance : ZK Tryz.prog 265 := ZS
instance : ZK Tryz.prog 266 := ZS
instance : ZK Tryz.prog 267 := ZS
instance : ZK Tryz.prog 268 := ZS
instance : ZK Tryz.prog 276 := ZS
instance : ZK Tryz.prog 277 := ZS
instance : ZK Tryz.prog 278 := ZS
instance : ZK Tryz.prog 279 := ZS
instance : ZK Tryz.prog 280 := ZS
instance : ZK Tryz.prog 281 := ZS
instance : ZK Tryz.prog 282 := ZS
instance : ZK Tryz.prog 283 := ZS
instance : ZK Tryz.prog 284 := ZS
instance : ZK Tryz.prog 285 := ZS
instance : ZK Tryz.prog 286 := ZS
instance : ZK Tryz.prog 289 := ZS
instance : ZK Tryz.prog 290 := ZS
instance : ZK Tryz.prog 291 := ZS
instance : ZK Tryz.prog 292 := ZS
instance : ZK Tryz.prog 293 := ZS
instance : ZK Tryz.prog 294 := ZS
instance : ZK Tryz.prog 295 := ZS
instance : ZK Tryz.prog 296 := ZS
instance : ZK Tryz.prog 297 := ZS
instance : ZK Tryz.prog 303 := ZS
instance : ZK Tryz.prog 304 := ZS
instance : ZK Tryz.prog 305 := ZS
instance : ZK Tryz.prog 306 := ZS
instance : ZK Tryz.prog 309 := ZS
instance : ZK Tryz.prog 310 := ZS
instance : ZK Tryz.prog 311 := ZS
instance : ZK Tryz.prog 314 := ZS
instance : ZK Tryz.prog 315 := ZS
instance : Mixed Tryz.prog := ⟨by kernel_rfl⟩
end Go.Proofs.E
namespace Go.Proofs.E
open Go
set_option linter.unusedVariables false
set_option linter.unusedSimpArgs false
set_option linter.unusedSectionVars false
set_option maxRecDepth 4000
set_option maxHeartbeats 1000000
attribute [local irreducible] Yl TL TC TE Spec ZN R1 Hp.le EnvLe TS TR YS Zp
def be : Nat → Nat → List UInt8
 | 0, _ => []
 | n + 1, x => UInt8.ofNat (x / 256 ^ n) :: be n x
def Ym (l : List UInt8) : Nat := l.foldl (fun a b => a * 256 + b.toNat) 0
theorem Zh (n x : Nat) : (be n x).length = n := by induction n <;> simp [be, *]
theorem foldl_be (l : List UInt8) (a : Nat) : l.foldl (fun a b => a * 256 + b.toNat) a = a * 256 ^ l.length + Ym l := by
 unfold Ym
 induction l generalizing a with
 | nil => simp
 | cons b l ih =>
  simp only [List.foldl_cons, List.length_cons]
  rw [ih (a * 256 + b.toNat), ih (0 * 256 + b.toNat)]
  rw [Nat.pow_succ]
  simp only [Nat.zero_mul, Nat.zero_add, Nat.add_mul, Nat.mul_assoc, Nat.mul_comm 256, Nat.add_assoc]
theorem unbe_cons (b : UInt8) (l : List UInt8) : Ym (b :: l) = b.toNat * 256 ^ l.length + Ym l := by
 have := foldl_be l (0 * 256 + b.toNat)
 simp only [Nat.zero_mul, Nat.zero_add] at this
 rw [← this]; simp [Ym]
theorem unbe_snoc (b : UInt8) (l : List UInt8) : Ym (l ++ [b]) = Ym l * 256 + b.toNat := by simp [Ym]
theorem XJ (l : List UInt8) : Ym l < 256 ^ l.length := by
 induction l with
 | nil => simp [Ym]
 | cons b l ih =>
  rw [unbe_cons, List.length_cons, Nat.pow_succ]
  have hb : b.toNat < 256 := b.toNat_lt
  have : (b.toNat + 1) * 256 ^ l.length ≤ 256 * 256 ^ l.length := Nat.mul_le_mul_right _ (by omega)
  rw [Nat.add_mul] at this
  omega
theorem WE (n x : Nat) : Ym (be n x) = x % 256 ^ n := by
 induction n with
 | zero => simp [be, Ym, Nat.mod_one]
 | succ n ih =>
  rw [be, unbe_cons, Zh, ih, UInt8.toNat_ofNat']
  have h1 := Nat.mod_mul (x := x) (a := 256 ^ n) (b := 256)
  have e : 256 ^ (n + 1) = 256 ^ n * 256 := by rw [Nat.pow_succ]
  have e2 : (2 : Nat) ^ 8 = 256 := by decide
  rw [e, h1, e2, Nat.mul_comm]
  omega
theorem be_mod (n x : Nat) : be n (x % 256 ^ n) = be n x := by
 have key : ∀ m, m ≤ n → be m (x % 256 ^ n) = be m x := by
  intro m
  induction m with
  | zero => intro _; rfl
  | succ m ih =>
   intro hm
   rw [be, be, ih (by omega)]
   congr 1
   apply UInt8.toNat_inj.1
   simp only [UInt8.toNat_ofNat']
   obtain ⟨k, rfl⟩ : ∃ k, n = m + 1 + k := ⟨n - (m + 1), by omega⟩
   have e : 256 ^ (m + 1 + k) = 256 ^ m * (256 * 256 ^ k) := by rw [Nat.pow_add, Nat.pow_succ, Nat.mul_assoc]
   rw [e, Nat.mod_mul_right_div_self, Nat.mod_mul_right_mod]
 exact key n (Nat.le_refl _)
theorem be_unbe (l : List UInt8) : be l.length (Ym l) = l := by
 induction l with
 | nil => rfl
 | cons b l ih =>
  rw [List.length_cons, be, unbe_cons]
  have hlt := XJ l
  have hp : 0 < 256 ^ l.length := Nat.pow_pos (by decide)
  have h1 : (b.toNat * 256 ^ l.length + Ym l) / 256 ^ l.length = b.toNat := by
   rw [Nat.mul_comm, Nat.mul_add_div hp, Nat.div_eq_of_lt hlt]; simp
  have h2 : be l.length (b.toNat * 256 ^ l.length + Ym l) = l := by
   rw [← be_mod, Nat.mul_comm, Nat.mul_add_mod, Nat.mod_eq_of_lt hlt, ih]
  rw [h1, h2]; simp
def z8 (n : Nat) : List UInt8 := List.replicate n 0
theorem stc_mid (A B vs ws : List Value) (h : ws.length = vs.length) : stc (A ++ (vs ++ B)) A.length ws = A ++ (ws ++ B) := by
 unfold stc
 rw [List.take_left, h, ← List.drop_drop, List.drop_left, List.drop_left, List.append_assoc]
theorem u8_wrap (y : Nat) : Value.int .u8 (IntKind.u8.wrap (y : Int)) = Zo (UInt8.ofNat y) := by
 simp only [Zo, UInt8.toNat_ofNat', IntKind.wrap, IntKind.bits, IntKind.signed, Bool.false_and, Bool.false_eq_true, if_false]
 congr 1
theorem made_z8 (m : Nat) : madeCells (Value.int .u8 0).cells m = ⟨(z8 m).map Zo⟩ := by
 have hz : (Value.int IntKind.u8 0).cells = ⟨[Zo 0]⟩ := rfl
 rw [hz]
 apply Array.ext'
 apply List.ext_getElem?
 intro i
 by_cases hi : i < m
 ·simp [madeCells, z8, hi, Nat.mod_one]
 ·rw [List.getElem?_eq_none (by simp [madeCells]; omega), List.getElem?_eq_none (by simp [z8]; omega)]
theorem own_chunk (b n c : Nat) {xs : List Value} {T : TypeId} : [(b, Obj.cells ⟨xs⟩ T (0, 0))] = Zw (.slice (some ⟨b, 0, none⟩) n c) xs [] T := by simp [Zw]
theorem stand_spec (ρ : Hp) (a : Option Addr) (n c : Nat) (l : List UInt8) (h : SIn ρ Zo a n l) (x p : Nat) (hx : x < 18446744073709551616) (hp : p ≤ 8) (hp1 : 1 ≤ p) (hn : n ≤ 1000000) :
  Spec Tryz.prog 289 [.slice a n c, .int .u64 x, .int .i64 p] ρ [] (fun v ρ' L' => ρ' = ρ ∧ ∃ sp, OwnS v (n + p) ((l ++ be p x).map Zo) sp 1 ∧ L' = [Zw v ((l ++ be p x).map Zo) sp 5]) := by
 have hl := h.len
 refine Za Tryz.func289 rfl rfl rfl fun u R => ?_
 simp only [Zf, kA]
 repeat' (first | (refine tl_makeSlice rfl rfl (by omega) (by omega) (by omega) (by omega) rfl (fun hbn => ?_)) | refine zW ?_ | intro _)
 simp only [show ((n : Int) + (p : Int)).toNat = n + p by omega, Nat.mul_one, made_z8]
 have hinit : stc ((z8 (n + p)).map Zo) 0 ((l.map Zo).take (n + p)) = (l ++ (z8 (p - 0) ++ be 0 x)).map Zo := by
  rw [List.take_of_length_le (by simp; omega)]
  unfold stc
  have e : z8 (n + p) = z8 n ++ z8 p := by simp [z8, List.replicate_append_replicate]
  rw [e]
  simp [be, hl, z8]
 refine tl_copy (ys := l.map Zo) rfl rfl (SIn.srcV h) (by simpa using hl) (Yf l) (by simp [z8]) rfl ?_
 simp only [hinit]
 repeat' (first | refine zW ?_ | intro _)
 refine Zm [(6, _), (7, _), (17, _)] (fun (ζ : (Nat) × (Nat)) => [(18, .int .i64 ζ.1), (1, .int .u64 (ζ.2 : Nat))]) (fun (ζ : (Nat) × (Nat)) => ρ) (fun (ζ : (Nat) × (Nat)) => [[(hbn, .cells ⟨(l ++ (z8 (p - ζ.1) ++ be ζ.1 x)).map Zo⟩ 5 (0, 0))]]) (fun (ζ : (Nat) × (Nat)) => ζ.1 ≤ p ∧ ζ.2 = x / 256 ^ ζ.1) (fun (ζ : (Nat) × (Nat)) => p - ζ.1) ((0, x)) (⟨Nat.zero_le _, by simp⟩) Zc Zc rfl tk ?_
 rintro ⟨k, y⟩ hI
 try simp only [kA, List.append_assoc] at hI ⊢
 try dsimp only at hI ⊢
 obtain ⟨hk, hy⟩ := hI
 by_cases hlt : k < p
 ·have hlen : ((l ++ (z8 (p - k) ++ be k x)).map Zo).length = n + p := by simp [z8, Zh, hl]; omega
  have hst : stc ((l ++ (z8 (p - k) ++ be k x)).map Zo) (0 + ((n : Int) + (p : Int) - 1 - k).toNat * 1) [Zo (UInt8.ofNat y)] = (l ++ (z8 (p - (k + 1)) ++ be (k + 1) x)).map Zo := by
   have e1 : z8 (p - k) = z8 (p - (k + 1)) ++ [0] := by
    rw [show p - k = (p - (k + 1)) + 1 by omega]; simp [z8, List.replicate_succ']
   have e2 : 0 + ((n : Int) + (p : Int) - 1 - k).toNat * 1 = ((l ++ z8 (p - (k + 1))).map Zo).length := by simp [z8, hl]; omega
   have e3 : (l ++ (z8 (p - k) ++ be k x)).map Zo = (l ++ z8 (p - (k + 1))).map Zo ++ ([Zo 0] ++ (be k x).map Zo) := by rw [e1]; simp
   rw [e2, e3, stc_mid _ _ [Zo 0] [Zo (UInt8.ofNat y)] rfl, be, ← hy]
   simp
  have hyy : y / 256 = x / 256 ^ (k + 1) := by rw [hy, Nat.div_div_eq_div_mul, Nat.pow_succ]
  repeat' (first | refine zW ?_ | intro _)
  have e8 : (y : Int) / 2 ^ 8 = ((x / 256 ^ (k + 1) : Nat) : Int) := by
   rw [← hyy]
   have : (2 : Int) ^ 8 = 256 := by decide
   omega
  rw [e8, u8_wrap, Int.natCast_add, hst]
  refine Zi (k + 1, x / 256 ^ (k + 1)) (⟨hlt, rfl⟩) Zc Zc rfl tk inferInstance (by first | omega | (dsimp only; omega))
 ·have hk2 : k = p := by omega
  subst hk2
  simp only [Nat.sub_self, z8, List.replicate_zero, List.nil_append]
  repeat' (first | refine zW ?_ | intro _)
  rw [own_chunk hbn (n + k) (n + k)]
  exact qE ⟨rfl, [], ⟨.inr ⟨hbn, n + k, rfl, by simp [Zh, hl], by simp [Zh, hl], Nat.le_refl _⟩⟩, rfl⟩
theorem put16_spec (ρ : Hp) (a : Option Addr) (n c : Nat) (l : List UInt8) (h : SIn ρ Zo a n l) (x : Nat) (hx : x < 65536) (hn : n ≤ 1000000) :
  Spec Tryz.prog 265 [.slice a n c, .int .u16 x] ρ [] (fun v ρ' L' => ρ' = ρ ∧ ∃ sp, OwnS v (n + 2) ((l ++ be 2 x).map Zo) sp 1 ∧ L' = [Zw v ((l ++ be 2 x).map Zo) sp 5]) := by
 have hw : IntKind.u64.wrap (x : Int) = x := Wh (by simp only [lo, hi]; omega)
 have hs := stand_spec ρ a n c l h x 2 (by omega) (by omega) (by omega) hn
 refine Za Tryz.func265 rfl rfl rfl fun u R => ?_
 simp only [Zf, kA]
 repeat' (first | (refine iCv ?_; refine tl_y (y_conv rfl) rfl rfl ?_; rw [hw]) | (refine Zb (.func 289) ?_; refine qC rfl rfl (hs) ?_; rintro v ρ' L' hle ⟨rfl, sp, hown, rfl⟩ <;> (try simp only [kA])) | refine zW ?_ | intro _)
 exact qE ⟨rfl, sp, hown, rfl⟩
theorem put64_spec (ρ : Hp) (a : Option Addr) (n c : Nat) (l : List UInt8) (h : SIn ρ Zo a n l) (x : Nat) (hx : x < 18446744073709551616) (hn : n ≤ 1000000) :
  Spec Tryz.prog 261 [.slice a n c, .int .u64 x] ρ [] (fun v ρ' L' => ρ' = ρ ∧ ∃ sp, OwnS v (n + 8) ((l ++ be 8 x).map Zo) sp 1 ∧ L' = [Zw v ((l ++ be 8 x).map Zo) sp 5]) := by
 have hs := stand_spec ρ a n c l h x 8 (by omega) (by omega) (by omega) hn
 refine Za Tryz.func261 rfl rfl rfl fun u R => ?_
 simp only [Zf, kA]
 repeat' (first | (refine Zb (.func 289) ?_; refine qC rfl rfl (hs) ?_; rintro v ρ' L' hle ⟨rfl, sp, hown, rfl⟩ <;> (try simp only [kA])) | refine zW ?_ | intro _)
 exact qE ⟨rfl, sp, hown, rfl⟩
theorem OwnS.zero (b sz : Nat) : OwnS (.slice (some ⟨b, 0, none⟩) 0 0) 0 [] [] sz := ⟨.inr ⟨b, 0, rfl, by simp, by simp, Nat.le_refl _⟩⟩
abbrev rdC (br : Nat) (a : Option Addr) (n c : Nat) (st : Int) : List (Nat × Obj) := [(br, .cells ⟨[.slice a n c, .int .i64 st]⟩ 271 (0, 0))]
theorem bclone_spec (ρ : Hp) (a : Option Addr) (n c : Nat) (l : List UInt8) (h : SIn ρ Zo a n l) (hn : n ≤ 1000000) :
  Spec Tryz.prog 189 [.slice a n c] ρ [] (fun v ρ' L' => ρ.le ρ' ∧ ∃ a' c', v = .slice a' n c' ∧ n ≤ c' ∧ SIn ρ' Zo a' n l ∧ L' = []) := by
 refine Za Tryz.func189 rfl rfl rfl fun u R => ?_
 simp only [Zf, kA]
 cases a with
 | none =>
  have hn0 : n = 0 := by
   rcases h.out with h0 | ⟨b, off, C, T, fr, h1, _⟩
   ·exact h0
   ·cases h1
  subst hn0
  repeat' (first | refine zW ?_ | intro _)
  exact qE ⟨Hp.le_refl _, none, 0, rfl, Nat.le_refl _, ⟨h.len, .inl rfl⟩, rfl⟩
 | some a =>
  repeat' (first | refine zW ?_ | intro _)
  refine Yk (n := 0) (xs := []) (sp := []) (ys := l.map Zo) (sz := 1) rfl rfl (OwnS.zero _ 1) (hR := Zz) (SIn.srcV h) (by simpa using h.len) (Yf l) (by decide) rfl (by omega) (by omega) rfl (fun v' sp' hown' => ?_)
  simp only [Nat.zero_add, List.nil_append] at hown' ⊢
  repeat' (first | refine zW ?_ | intro _)
  refine Yb _ (h := Rem.here) (fun ρ' hle hfz => ?_)
  obtain ⟨a', c', rfl, hc, hs⟩ := hown'.sIn hfz
  exact qE ⟨hle, a', c', rfl, hc, hs, rfl⟩
theorem read_spec (ρ : Hp) (a : Option Addr) (n c : Nat) (l : List UInt8) (h : SIn ρ Zo a n l) (hn : n ≤ 1000000) :
  Spec Tryz.prog 139 [.slice a n c] ρ [] (fun v ρ' L' => ρ.le ρ' ∧ ∃ br a' c', v = .pointer (some ⟨br, 0, none⟩) ∧ n ≤ c' ∧ SIn ρ' Zo a' n l ∧ L' = [rdC br a' n c' 0]) := by
 have hc := bclone_spec ρ a n c l h hn
 refine Za Tryz.func139 rfl rfl rfl fun u R => ?_
 simp only [Zf, kA]
 repeat' (first | (refine Zb (.func 189) ?_; refine qC rfl rfl (hc) ?_; rintro v ρ' L' hle ⟨hle, a', c', rfl, hc', hs, rfl⟩ <;> (try simp only [kA])) | refine zW ?_ | intro _)
 exact qE ⟨hle, _, a', c', rfl, hc', hs, rfl⟩
theorem Xc (ρ : Hp) (br : Nat) (a : Option Addr) (n c : Nat) (st : Int) :
  Spec Tryz.prog 204 [.pointer (some ⟨br, 0, none⟩)] ρ [rdC br a n c st] (fun v ρ' L' => v = .int .i64 st ∧ ρ' = ρ ∧ L' = [rdC br a n c st]) := by
 refine Za Tryz.func204 rfl rfl rfl fun u R => ?_
 simp only [Zf, kA]
 repeat' (first | refine zW ?_ | intro _)
 exact qE ⟨rfl, rfl, rfl⟩
theorem Wo (ρ : Hp) (br : Nat) (a : Option Addr) (n c : Nat) (st : Int) :
  Spec Tryz.prog 149 [.pointer (some ⟨br, 0, none⟩)] ρ [rdC br a n c st] (fun v ρ' L' => v = .int .i64 n ∧ ρ' = ρ ∧ L' = [rdC br a n c st]) := by
 refine Za Tryz.func149 rfl rfl rfl fun u R => ?_
 simp only [Zf, kA]
 repeat' (first | refine zW ?_ | intro _)
 exact qE ⟨rfl, rfl, rfl⟩
theorem gives_stuck (ρ : Hp) (br : Nat) (a : Option Addr) (n c : Nat) (st : Int) (hst : st ≠ 0) (k : Int) (f : Value) :
  Spec Tryz.prog 240 [.pointer (some ⟨br, 0, none⟩), .int .i64 k, f] ρ [rdC br a n c st] (fun v ρ' L' => v = .tuple ⟨[]⟩ ∧ ρ' = ρ ∧ L' = [rdC br a n c st]) := by
 refine Za Tryz.func240 rfl rfl rfl fun u R => ?_
 simp only [Zf, kA]
 repeat' (first | (refine Zb (.func 204) ?_; refine qR rfl rfl (Xc _ br a n c st) ?_; try simp only [kA]) | refine zW ?_ | intro _)
 exact qE ⟨rfl, rfl, rfl⟩
theorem gives_short (ρ : Hp) (br : Nat) (a : Option Addr) (n c : Nat) (k : Int) (hk : (n : Int) < k) (f : Value) :
  Spec Tryz.prog 240 [.pointer (some ⟨br, 0, none⟩), .int .i64 k, f] ρ [rdC br a n c 0] (fun v ρ' L' => v = .tuple ⟨[]⟩ ∧ ρ' = ρ ∧ L' = [rdC br a n c 7]) := by
 refine Za Tryz.func240 rfl rfl rfl fun u R => ?_
 simp only [Zf, kA]
 repeat' (first | (refine Zb (.func 204) ?_; refine qR rfl rfl (Xc _ br a n c 0) ?_; try simp only [kA]) | refine zW ?_ | intro _)
 exact qE ⟨rfl, rfl, rfl⟩
theorem gives_ok (ρ : Hp) (br : Nat) (a : Option Addr) (n c : Nat) (l : List UInt8) (h : SIn ρ Zo a n l) (hc : n ≤ c) (k : Nat) (hk : k ≤ n) (g : Nat) (cs : List Value) (X X' : SH) [ZK Tryz.prog g]
  (hS : SIn ρ Zo a k (l.take k) → Spec Tryz.prog g ([.slice a k c] ++ cs) ρ X (fun v ρ' L' => v = .tuple ⟨[]⟩ ∧ ρ' = ρ ∧ L' = X')) :
  Spec Tryz.prog 240 [.pointer (some ⟨br, 0, none⟩), .int .i64 k, .func (.func g) ⟨[]⟩ ⟨cs⟩] ρ (rdC br a n c 0 :: X)
   (fun v ρ' L' => v = .tuple ⟨[]⟩ ∧ ρ' = ρ ∧ ∃ a' c', SIn ρ Zo a' (n - k) (l.drop k) ∧ n - k ≤ c' ∧ L' = rdC br a' (n - k) c' 0 :: X') := by
 replace hS := hS (h.take hk)
 have hl := h.len
 have hsub := h.sub (lo' := k) (hi' := n) (cap := c) hk (Nat.le_refl _) hc
 rw [List.take_of_length_le (by simp; omega)] at hsub
 refine Za Tryz.func240 rfl rfl rfl fun u R => ?_
 simp only [Zf, kA] at hS ⊢
 repeat' (first | (refine Zb (.func 204) ?_; refine qR rfl rfl (Xc _ br a n c 0) ?_; try simp only [kA]) | (refine Zb (.tmp 9) ?_; refine qR rfl rfl (hS) ?_; try simp only [kA]) | refine zW ?_ | intro _)
 exact qE ⟨rfl, rfl, _, c - k, hsub, by omega, rfl⟩
end Go.Proofs.E
