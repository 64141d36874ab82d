/- Laws of RedoAll,RedoOthers,RedoSteps. Part 4 of 23. -/
import Derived.Test.YtpcfmhifkkpjpaaGreatA3
namespace Go.Proofs.E
open Go
set_option linter.unusedVariables false
attribute [local irreducible] Yl TL TC TE Spec ZF R1 Hp.le EnvLe TS TR YS Zo
section
variable {x : Cx} {E : Env} {ρ ρ0 : Hp} {L : SH} {v : Value}
theorem qF {e : Exit} {fn : Func} {u : World} {R : SH} {Post : Value → Hp → SH → Prop} {L' G : SH} (hp : Post v ρ L')
  (hr : ∀ a w, Ok x.D x.N E a → Sat x.u ρ L w → (results fn a.tmps).run x.P w = .ok v w := by
   first
   | exact res0 rfl
   | exact res1 rfl (ZU rfl)
   | exact res1 rfl (ZL rfl (by first | assumption | rfl))
   | exact res1 rfl (Zv rfl rfl)
   | exact res2 rfl (ZU rfl) (ZU rfl)
   | exact res2 rfl (ZU rfl) (ZL rfl (by first | assumption | rfl))
   | exact res2 rfl (ZU rfl) (Zv rfl rfl)
   | exact res2 rfl (ZL rfl (by first | assumption | rfl)) (ZU rfl)
   | exact res2 rfl (ZL rfl (by first | assumption | rfl)) (ZL rfl (by first | assumption | rfl))
   | exact res2 rfl (ZL rfl (by first | assumption | rfl)) (Zv rfl rfl)
   | exact res2 rfl (Zv rfl rfl) (ZU rfl)
   | exact res2 rfl (Zv rfl rfl) (ZL rfl (by first | assumption | rfl))
   | exact res2 rfl (Zv rfl rfl) (Zv rfl rfl)
   | exact WR rfl (ZU rfl) (ZU rfl) (ZU rfl)
   | exact WR rfl (ZU rfl) (ZU rfl) (ZL rfl (by first | assumption | rfl))
   | exact WR rfl (ZU rfl) (ZU rfl) (Zv rfl rfl)
   | exact WR rfl (ZU rfl) (ZL rfl (by first | assumption | rfl)) (ZU rfl)
   | exact WR rfl (ZU rfl) (ZL rfl (by first | assumption | rfl)) (ZL rfl (by first | assumption | rfl))
   | exact WR rfl (ZU rfl) (ZL rfl (by first | assumption | rfl)) (Zv rfl rfl)
   | exact WR rfl (ZU rfl) (Zv rfl rfl) (ZU rfl)
   | exact WR rfl (ZU rfl) (Zv rfl rfl) (ZL rfl (by first | assumption | rfl))
   | exact WR rfl (ZU rfl) (Zv rfl rfl) (Zv rfl rfl)
   | exact WR rfl (ZL rfl (by first | assumption | rfl)) (ZU rfl) (ZU rfl)
   | exact WR rfl (ZL rfl (by first | assumption | rfl)) (ZU rfl) (ZL rfl (by first | assumption | rfl))
   | exact WR rfl (ZL rfl (by first | assumption | rfl)) (ZU rfl) (Zv rfl rfl)
   | exact WR rfl (ZL rfl (by first | assumption | rfl)) (ZL rfl (by first | assumption | rfl)) (ZU rfl)
   | exact WR rfl (ZL rfl (by first | assumption | rfl)) (ZL rfl (by first | assumption | rfl)) (ZL rfl (by first | assumption | rfl))
   | exact WR rfl (ZL rfl (by first | assumption | rfl)) (ZL rfl (by first | assumption | rfl)) (Zv rfl rfl)
   | exact WR rfl (ZL rfl (by first | assumption | rfl)) (Zv rfl rfl) (ZU rfl)
   | exact WR rfl (ZL rfl (by first | assumption | rfl)) (Zv rfl rfl) (ZL rfl (by first | assumption | rfl))
   | exact WR rfl (ZL rfl (by first | assumption | rfl)) (Zv rfl rfl) (Zv rfl rfl)
   | exact WR rfl (Zv rfl rfl) (ZU rfl) (ZU rfl)
   | exact WR rfl (Zv rfl rfl) (ZU rfl) (ZL rfl (by first | assumption | rfl))
   | exact WR rfl (Zv rfl rfl) (ZU rfl) (Zv rfl rfl)
   | exact WR rfl (Zv rfl rfl) (ZL rfl (by first | assumption | rfl)) (ZU rfl)
   | exact WR rfl (Zv rfl rfl) (ZL rfl (by first | assumption | rfl)) (ZL rfl (by first | assumption | rfl))
   | exact WR rfl (Zv rfl rfl) (ZL rfl (by first | assumption | rfl)) (Zv rfl rfl)
   | exact WR rfl (Zv rfl rfl) (Zv rfl rfl) (ZU rfl)
   | exact WR rfl (Zv rfl rfl) (Zv rfl rfl) (ZL rfl (by first | assumption | rfl))
   | exact WR rfl (Zv rfl rfl) (Zv rfl rfl) (Zv rfl rfl))
  (hle : ρ0.le ρ := by first | assumption | exact Hp.le_refl _ | (refine Hp.le_trans ?_ (by assumption); assumption) | solve_by_elim (maxDepth := 6) [Hp.le_trans]) (k : Xe L L' G := by exact tk) (en : Ends G R := by infer_instance) (he : isEnd e = true := by rfl) (hD : x.D = [] := by rfl) (hu : x.u = u := by rfl) :
  TE x e (bodyPostM (Fw none) 0 x.P fn (RK u ρ0 R Post)) E ρ L := te_end he hD hu hr hle k en hp
end
theorem YU {a b : Bool} (h : a = true ↔ b = true) : Value.bool a = Value.bool b := congrArg _ (Bool.eq_iff_iff.2 h)
class SetN (l : List Value) (off n : Nat) (vs : List Value) (l' : outParam (List Value)) : Prop where
 len : vs.length = n
 fit : off + n ≤ l.length
 out : stc l off vs = l'
instance SetN.nil {l : List Value} : SetN l 0 0 [] l := ⟨rfl, by simp, by simp [stc]⟩
instance SetN.cons {a v : Value} {r vs r' : List Value} {n : Nat} [h : SetN r 0 n vs r'] : SetN (a :: r) 0 (n + 1) (v :: vs) (v :: r') := ⟨by
 have := h.len; simp [this], by have := h.fit; simp at this ⊢; omega, by
 have := h.out
 simp only [stc, List.take_zero, List.nil_append, Nat.zero_add, List.length_cons, List.drop_succ_cons, List.cons_append] at this ⊢
 rw [this]⟩
instance SetN.drop {a : Value} {r vs r' : List Value} {o n : Nat} [h : SetN r o n vs r'] : SetN (a :: r) (o + 1) n vs (a :: r') := ⟨h.len, by
 have := h.fit; simp only [List.length_cons]; omega, by
 have := h.out
 simp only [stc, List.take_succ_cons, List.cons_append] at this ⊢
 rw [show o + 1 + vs.length = (o + vs.length) + 1 by omega, List.drop_succ_cons, this]⟩
class GetQ (pl : List (Nat × Nat)) (i : Nat) (off n : outParam Nat) : Prop where
 out : pl[i]? = some (off, n)
instance GetQ.zero {off n : Nat} {r : List (Nat × Nat)} : GetQ ((off, n) :: r) 0 off n := ⟨rfl⟩
instance GetQ.succ {p : Nat × Nat} {r : List (Nat × Nat)} {i off n : Nat} [h : GetQ r i off n] : GetQ (p :: r) (i + 1) off n := ⟨by simpa using h.out⟩
class CellsL (v : Value) (l : outParam (List Value)) : Prop where
 out : v.cells = ⟨l⟩
instance {l : List Value} : CellsL (.agg ⟨l⟩) l := ⟨rfl⟩
instance {k : IntKind} {n : Int} : CellsL (.int k n) [.int k n] := ⟨rfl⟩
instance {b : Bool} : CellsL (.bool b) [.bool b] := ⟨rfl⟩
instance {s : ByteArray} : CellsL (.string s) [.string s] := ⟨rfl⟩
instance {a : Option Addr} : CellsL (.pointer a) [.pointer a] := ⟨rfl⟩
instance {a : Option Addr} {n c : Nat} : CellsL (.slice a n c) [.slice a n c] := ⟨rfl⟩
instance {m : Option Nat} : CellsL (.map m) [.map m] := ⟨rfl⟩
class BuildM (pl : List (Nat × Nat)) (cells : List Value) (ps : List (Nat × Operand)) (vs : List Value) (out : outParam (List Value)) : Prop where
 out : Instr.fill (pl[·]?) ⟨cells⟩ ((ps.map (·.1)).zip vs) = some ⟨out⟩
instance BuildM.nil {pl : List (Nat × Nat)} {cells : List Value} : BuildM pl cells [] [] cells := ⟨rfl⟩
instance BuildM.cons {pl : List (Nat × Nat)} {cells cells' out : List Value} {i off n : Nat} {o : Operand} {ps : List (Nat × Operand)} {v : Value} {l vs : List Value} [h1 : GetQ pl i off n] [h0 : CellsL v l] [h2 : SetN cells off n l cells'] [h3 : BuildM pl cells' ps vs out] : BuildM pl cells ((i, o) :: ps) (v :: vs) out := ⟨by
 simp only [List.map_cons, List.zip_cons_cons]
 rw [fill_cons (pl := (pl[·]?)) h1.out h0.out h2.len h2.fit, h2.out]
 exact h3.out⟩
theorem y_buildN {x : Cx} {E : Env} {ρ : Hp} {L : SH} {ty : TypeId} {t : Nat} {pl : List (Nat × Nat)} {z out : List Value} {ps : List (Nat × Operand)} {vs : List Value} [hP : Zq x.P t (pl[·]?)] [hz : Zh x.P t (.agg ⟨z⟩)] (hv : evs E (ps.map (·.2)) = some vs) [hB : BuildM pl z ps vs out] :
  Yl x (.build t ⟨ps⟩) ty E ρ L (.agg ⟨out⟩) := y_build hv hB.out
theorem bq2 {a b c d : Int} : ((a == b) = (c == d)) ↔ (a = b ↔ c = d) := by
 rw [Bool.eq_iff_iff, beq_iff_eq, beq_iff_eq]
theorem bqt {a b : Int} : (true = (a == b)) ↔ a = b := by
 rw [eq_comm, beq_iff_eq]
theorem bqf {a b : Int} : (false = (a == b)) ↔ ¬ a = b := by
 rw [eq_comm, beq_eq_false_iff_ne]
end Go.Proofs.E
namespace Go.Proofs.E
open Go Go.Lib
set_option linter.unusedVariables false
set_option linter.unusedSimpArgs false
set_option linter.unusedSectionVars false
section
variable {x : Cx} {Q : Exit → Act → World → Prop} {E : Env} {ρ : Hp} {L L1 : SH} {ops : Array Oper} {rest : List Oper} {ty : TypeId} {pos : String} {af : Array Edge}
theorem GetL.get {l : List Value} {d : Nat} {v : Value} (h : GetL l d v) : l[d]? = some v := h.out
theorem stc_midP {P l S l' : List Value} {o d : Nat} {vs : List Value} (hP : P.length = o) (hd : d + vs.length ≤ l.length) (h : stc l d vs = l') : stc (P ++ (l ++ S)) (o + d) vs = P ++ (l' ++ S) := by
 subst h
 unfold stc
 subst hP
 rw [List.take_append, List.take_of_length_le (by omega), Nat.add_sub_cancel_left, List.take_append_of_le_length (by omega), Nat.add_assoc, List.drop_append, List.drop_of_length_le (show P.length ≤ P.length + (d + vs.length) by omega), Nat.add_sub_cancel_left, List.drop_append_of_le_length hd]
 simp only [List.nil_append, List.append_assoc]
theorem tl_store_midA {t b o n : Nat} {q p : Operand} {P l vs S : List Value} {T : TypeId} {f : Obj → SH} (ho : ev E q = some (.pointer (some ⟨b, o, none⟩))) (hp : ev E p = some (.agg ⟨vs⟩)) (hP : P.length = o) (hl : l.length = n) (hn : vs.length = n) (h1 : vs.all (·.oneCell') = true) [hZ : Zp x.P t n] [hU : Upd b L (.cells ⟨P ++ (l ++ S)⟩ T (0, 0)) f]
  (k : TL x ops rest Q E ρ (f (.cells ⟨P ++ (vs ++ S)⟩ T (0, 0)))) :
  TL x ops (⟨none, .store t q p, ty, pos, af, none⟩ :: rest) Q E ρ L := by
 refine tl_store_a ho hp hn h1 (ble_le (by simp only [List.length_append]; omega)) ?_
 have := stc_midP (P := P) (l := l) (S := S) (o := o) (d := 0) (vs := vs) (l' := vs) hP (by omega) (by simp [stc, hn, ← hl])
 rw [Nat.add_zero] at this
 rw [this]
 exact k
theorem TE.perm {e : Exit} {L' : SH} (h : TE x e Q E ρ L') (hL : L.flatten.Perm L'.flatten) : TE x e Q E ρ L := fun a w ha hw => h a w ha (hw.perm hL)
theorem TE.sub {e : Exit} {L' : SH} (h : TE x e Q E ρ L') (hL : List.Sublist L'.flatten L.flatten) : TE x e Q E ρ L := fun a w ha hw => h a w ha (hw.sub hL)
theorem TC.sub {c : Code} {L' : SH} (h : TC x c Q E ρ L') (hL : List.Sublist L'.flatten L.flatten) : TC x c Q E ρ L := fun a w ha hw => h a w ha (hw.sub hL)
theorem TL.sub {l : List Oper} {L' : SH} (h : TL x ops l Q E ρ L') (hL : List.Sublist L'.flatten L.flatten) : TL x ops l Q E ρ L := fun a w ha hw => h a w ha (hw.sub hL)
end
theorem Hp.up {ρ ρ' : Hp} (h : ρ.le ρ') {b : Nat} {o : Obj} (hb : ρ b = some o) : ρ' b = some o := h _ _ hb
section
variable {x : Cx} {Q : Exit → Act → World → Prop} {E : Env} {ρ : Hp} {L : SH} {ops : Array Oper} {rest : List Oper} {ty : TypeId} {pos : String} {af : Array Edge}
end
theorem Spec.freeze {P : Program} {f : FuncId} {args : List Value} {ρ : Hp} {L : SH} {Post : Value → Hp → SH → Prop} {Post2 : Value → Hp → Prop} (h : Spec P f args ρ L Post)
  (k : ∀ v ρ' L', ρ.le ρ' → Post v ρ' L' → ∀ ρ2, ρ'.le ρ2 → (∀ p ∈ L'.flatten, ρ2 p.1 = some p.2) → Post2 v ρ2) : Spec P f args ρ L (fun v ρ2 L2 => Post2 v ρ2 ∧ L2 = []) := fun u R w hw => by
 refine (h u R w hw).mono ?_
 rintro e w' ⟨v, ρ', L', h2, h3, h4, h5⟩
 have h6 : Sat u ρ' (L'.flatten :: R) w' := h4.perm (by simp)
 obtain ⟨h7, hle, hf⟩ := h6.freeze
 exact ⟨v, _, [], h2, Hp.le_trans h3 hle, h7, k v ρ' L' h3 h5 _ hle hf, rfl⟩
section
variable {x : Cx} {Q : Exit → Act → World → Prop} {E : Env} {ρ : Hp} {L L1 L2 : SH} {ops : Array Oper} {l : List Oper} {c d : List (Nat × Obj)} {e : Exit} {y : Code}
end
instance (priority := 1100) eqC_four {P : Program} {m t e : Nat} {k : IntKind} [hA : WK P t 4 e] [hE : YT P e k] [hS : TyS P e] {a b c d a' b' c' d' : Int} :
  EqC P (m + 2) t (.agg ⟨[.int k a, .int k b, .int k c, .int k d]⟩) (.agg ⟨[.int k a', .int k b', .int k c', .int k d']⟩) (decide (a = a' ∧ b = b' ∧ c = c' ∧ d = d')) := ⟨fun dd w hdd => by
 obtain ⟨dd, rfl⟩ : ∃ d', dd = d' + 2 := ⟨dd - 2, by omega⟩
 obtain ⟨ds, i, g1, g2, g3, g4⟩ := hS.out
 have hag : ∀ w, (isAgg e).run P w = .ok false w := fun w => by
  simp only [isAgg, underlying, Sem.run_bind, run_program, Result.andThen_ok, g1, Sem.run_pure]
  cases ds <;> simp_all
 have hcl : P.cellsOf e = 1 := by simp [Program.cellsOf, g3, g4]
 have hp : ∀ (x : Array Value) (j : Nat) (v : Value) (w : World), x[j]? = some v → (part e x j).run P w = .ok v w := fun x j v w h => by
  simp [part, hag, h]
 have hr := fun (x y : Int) (w : World) => run_equalIn_int (P := P) w dd e k k x y hE.out
 rw [run_equalIn_array w (dd + 1) _ _ hA.out g3, show List.range 4 = [0, 1, 2, 3] from rfl]
 have q0 := fun w => hp ⟨[.int k a, .int k b, .int k c, .int k d]⟩ 0 (.int k a) w rfl
 have q1 := fun w => hp ⟨[.int k a, .int k b, .int k c, .int k d]⟩ 1 (.int k b) w rfl
 have q2 := fun w => hp ⟨[.int k a, .int k b, .int k c, .int k d]⟩ 2 (.int k c) w rfl
 have q3 := fun w => hp ⟨[.int k a, .int k b, .int k c, .int k d]⟩ 3 (.int k d) w rfl
 have p0 := fun w => hp ⟨[.int k a', .int k b', .int k c', .int k d']⟩ 0 (.int k a') w rfl
 have p1 := fun w => hp ⟨[.int k a', .int k b', .int k c', .int k d']⟩ 1 (.int k b') w rfl
 have p2 := fun w => hp ⟨[.int k a', .int k b', .int k c', .int k d']⟩ 2 (.int k c') w rfl
 have p3 := fun w => hp ⟨[.int k a', .int k b', .int k c', .int k d']⟩ 3 (.int k d') w rfl
 simp only [Op.eqItems, Sem.run_bind, hcl, Nat.mul_one, q0, p0, q1, p1, q2, p2, q3, p3, Result.andThen_ok, hr]
 cases h0 : (a == a') <;> cases h1 : (b == b') <;> cases h2 : (c == c') <;> cases h3 : (d == d') <;> simp only [h0, h1, h2, h3, Bool.not_true, Bool.not_false, if_true, if_false, Bool.false_eq_true, Sem.run_bind, Sem.run_pure, q1, p1, q2, p2, q3, p3, hr, Result.andThen_ok, Op.eqItems]
 all_goals (congr 1; simp only [beq_iff_eq, beq_eq_false_iff_ne] at h0 h1 h2 h3; simp [h0, h1, h2, h3])⟩
end Go.Proofs.E
namespace Go.Proofs.E
open Go
set_option linter.unusedVariables false
set_option linter.unusedSimpArgs false
attribute [local irreducible] Yl TL TC TE Spec ZF R1 Hp.le EnvLe TS TR YS Zo
theorem zW {G P : Prop} (k : G) (h : G → P := by
   intro k
   first
   | (refine i_op ?_; first | (refine i_qq ?_; exact qQ k) | exact Yp k)
   | exact Zi k
   | (refine i_tc ?_; exact qTc k)
   | (refine i_te ?_; exact qTe k)) : P := h k
theorem zV {G P : Prop} (k : G) (h : G → P := by
   intro k
   first
   | (refine iBu ?_; exact tl_y (y_buildN rfl) rfl rfl k)
   | (refine i_op ?_; first | (refine i_qq ?_; exact qQ k) | exact Yp k)
   | exact Zi k
   | (refine i_tc ?_; exact qTc k)
   | (refine i_te ?_; exact qTe k)) : P := h k
end Go.Proofs.E
namespace Go.Proofs.E
open Go
set_option linter.unusedVariables false
set_option linter.unusedSimpArgs false
def UKeys (es : List MapEntry) : Prop := es.Pairwise (fun a b => a.key ≠ b.key)
theorem mget_none {es : List MapEntry} {k : Int} : YC es k = none ↔ ∀ e ∈ es, ∀ kk, e.key ≠ .int kk k := by
 unfold YC
 rw [Option.map_eq_none_iff, List.find?_eq_none]
 constructor
 ·intro h e he kk hk
  have := h e he
  rw [hk] at this
  simp at this
 ·intro h e he hc
  cases hk : e.key <;> rw [hk] at hc <;> simp at hc
  subst hc
  exact h e he _ hk
theorem UKeys.add {es : List MapEntry} {x : MapEntry} (h : UKeys es) (hx : ∀ e ∈ es, ¬ e.key = x.key) : UKeys (es ++ [x]) := by
 unfold UKeys
 rw [List.pairwise_append]
 exact ⟨h, List.pairwise_singleton _ _, fun a ha b hb => by rw [List.mem_singleton.1 hb]; exact hx a ha⟩
theorem UKeys.mod {kk : IntKind} {k : Int} {v : Value} {pre post : List MapEntry} {e : MapEntry} (h : UKeys (pre ++ e :: post)) (hk : e.key = .int kk k) : UKeys (pre ++ { e with key := .int kk k, val := v } :: post) := by
 unfold UKeys at h ⊢
 rw [List.pairwise_append, List.pairwise_cons] at h ⊢
 obtain ⟨h1, ⟨h2, h3⟩, h4⟩ := h
 refine ⟨h1, ⟨fun b hb => by rw [← hk]; exact h2 b hb, h3⟩, fun a ha b hb => ?_⟩
 rcases List.mem_cons.1 hb with rfl | hb
 ·show a.key ≠ .int kk k
  rw [← hk]; exact h4 a ha e (by simp)
 ·exact h4 a ha b (by simp [hb])
section
variable {x : Cx} {Q : Exit → Act → World → Prop} {E : Env} {ρ ρ0 : Hp} {L : SH} {ops : Array Oper} {rest : List Oper} {ty : TypeId} {pos : String} {af : Array Edge}
theorem run_mapUpdate_u {P : Program} {t kt e : TypeId} {kk : IntKind} (hM : TyMap P t kt e) (hK : YT P kt kk) {w : World} {b : Nat} {es : List MapEntry} {ck : Nat}
  (hb : w.heap[b]? = some (.map ⟨es⟩ ck)) (hes : Yi kk es) (hu : UKeys es) (k : Int) (v : Value) :
  ∃ es' ck', (Instr.mapUpdate t (.map (some b)) (.int kk k) v).run P w = .ok () (putB w b (.map ⟨es'⟩ ck')) ∧ Yi kk es' ∧ UKeys es' ∧ ∀ j, YC es' j = if j = k then some v else YC es j := by
 have hck := fun e => run_checkKey_int hK e k w
 have hfk : (Instr.findKey kt (.int kk k) es).run P w = .ok ((Instr.findNow (.int kk) (.int kk k) es 0).getD none) w ∧ True := by
  refine ⟨?_, trivial⟩
  simp only [Instr.findKey, Sem.run_bind, underlying, run_program, Result.andThen_ok, hK.out, Sem.run_pure]
  rcases Wj (k := k) es 0 hes with ⟨h1, h2⟩ | ⟨pre, e', post, h0, h1, h2, h3, h4⟩
  ·simp [h2]
  ·simp [h4]
 rcases Wj (k := k) es 0 hes with ⟨h1, h2⟩ | ⟨pre, e', post, rfl, h1, h2, h3, h4⟩
 ·rw [h2] at hfk
  refine ⟨es ++ [{ key := .int kk k, val := v, born := ck }], ck + 1, ?_, ?_, hu.add (fun e he hk => ?_), ?_⟩
  rotate_left 2
  ·exact (mget_none.1 h1) e he kk hk
  rotate_right 2
  ·simp [Instr.mapUpdate, underlying, hM.out, MapKept.run_getObj_map hb, hck, hfk.1, MapKept.run_setObj_map _ hb, putB]
  ·intro e he
   rcases List.mem_append.1 he with he | he
   ·exact hes e he
   ·simp only [List.mem_singleton] at he; subst he; exact ⟨k, rfl⟩
  ·intro j
   rw [WN]
   by_cases hj : j = k
   ·subst hj; rw [h1]; simp [YC]
   ·rw [if_neg hj]
    have : YC [({ key := .int kk k, val := v, born := ck } : MapEntry)] j = none := by
     have : (k == j) = false := by simpa using fun e : k = j => hj e.symm
     simp [YC, this]
    rw [this]; simp
 ·rw [h4] at hfk
  have hstay : (Instr.keyThatStays (.int kk k) (.int kk k)).run P w = .ok (.int kk k) w := by
   have : Instr.sameBits 10000 (.int kk k) (.int kk k) = true := by simp [Instr.sameBits]
   simp [Instr.keyThatStays, this]
  refine ⟨pre ++ { e' with key := .int kk k, val := v } :: post, ck, ?_, ?_, UKeys.mod hu h1, ?_⟩
  ·have hmod : (Array.mk (pre ++ e' :: post)).modify pre.length (fun e => { e with key := .int kk k, val := v }) = ⟨pre ++ { e' with key := .int kk k, val := v } :: post⟩ := by
    apply Array.ext_getElem?
    intro i
    rw [Array.getElem?_modify]
    simp only [List.getElem?_toArray]
    rcases Nat.lt_trichotomy i pre.length with hi | hi | hi
    ·rw [if_neg (by omega), List.getElem?_append_left hi, List.getElem?_append_left hi]
    ·subst hi; simp
    ·rw [if_neg (by omega), List.getElem?_append_right (by omega), List.getElem?_append_right (by omega)]
     have : i - pre.length = (i - pre.length - 1) + 1 := by omega
     rw [this]; simp
   have hmod' := congrArg Array.toList hmod
   simp only [Array.toList_modify] at hmod'
   simp [Instr.mapUpdate, underlying, hM.out, MapKept.run_getObj_map hb, hck, hfk.1, MapKept.run_setObj_map _ hb, putB, h1, hstay, hmod']
  ·intro e he
   rcases List.mem_append.1 he with he | he
   ·exact hes e (by simp [he])
   ·rcases List.mem_cons.1 he with rfl | he
    ·exact ⟨k, rfl⟩
    ·exact hes e (by simp [he])
  ·intro j
   rw [WN, WN]
   by_cases hj : j = k
   ·subst hj; rw [h2]; simp [YC]
   ·rw [if_neg hj]
    have hkj : (k == j) = false := by simpa using fun e : k = j => hj e.symm
    congr 1
    simp [YC, List.find?_cons, h1, hkj]
theorem tl_mapUpdateU {m i p : Operand} {t kt e b : Nat} {kk : IntKind} {es : List MapEntry} {ck : Nat} {k : Int} {v : Value} {f : Obj → SH} (hm : ev E m = some (.map (some b))) (hi : ev E i = some (.int kk k)) (hp : ev E p = some v)
  [hM : TyMap x.P t kt e] [hK : YT x.P kt kk] [hU : Upd b L (.map ⟨es⟩ ck) f] (hes : Yi kk es) (hu : UKeys es)
  (kk' : ∀ es' ck', Yi kk es' → UKeys es' → (∀ j, YC es' j = if j = k then some v else YC es j) → TL x ops rest Q E ρ (f (.map ⟨es'⟩ ck'))) :
  TL x ops (⟨none, .mapUpdate t m i p, ty, pos, af, none⟩ :: rest) Q E ρ L := fun a w ha hw => by
 refine Yd rfl rfl ?_
 obtain ⟨es', ck', hrun, h1, h2, h3⟩ := run_mapUpdate_u hM hK (hw.upd hU (.map ⟨es⟩ ck)).2 hes hu k v
 have hs := (hw.upd hU (.map ⟨es'⟩ ck')).1
 have : (execOp a.eval ⟨none, .mapUpdate t m i p, ty, pos, af, none⟩).run x.P w = .ok .skip (putB w b (.map ⟨es'⟩ ck')) := by
  simp only [execOp, ha.eval hm, ha.eval hi, ha.eval hp, Sem.run_bind, hrun, Result.andThen_ok, Sem.run_pure]
 rw [this]
 exact kk' es' ck' h1 h2 h3 _ _ (ha.put_none undef) hs
end
def IterP (P : Program) (g : FuncId) (fs cs : List Value) {α : Type} (enc : α → List Value) (ρ0 : Hp) (S : SH) (C : List (Nat × Obj)) (xs : List α) : Prop :=
 ∀ (l : Nat) (J : List α → Hp → SH → Prop) (Jx : Hp → SH → Prop), (∀ ρ Lj, J [] ρ Lj → ∃ A B, Lj = A ++ C :: B) →
  (∀ pre y ρ Lj, (pre ++ [y]) <+: xs → ρ0.le ρ → J pre ρ Lj → ZF P l (enc y) ρ (S ++ Lj) (YP S (J (pre ++ [y])) Jx)) →
  ∀ ρ Lj, ρ0.le ρ → J [] ρ Lj → Spec P g (fs ++ [.func (.yield l) ⟨[]⟩ ⟨[]⟩] ++ cs) ρ (S ++ Lj) (fun v ρ' L' => ∃ Lj', L' = S ++ Lj' ∧ (J xs ρ' Lj' ∨ Jx ρ' Lj'))
section
variable {x : Cx} {Q : Exit → Act → World → Prop} {E : Env} {ρ ρ0 : Hp} {L : SH} {l : Nat} {r : Loop}
theorem tc_rangeFuncP {fo : Operand} {ps : List Nat} {assign body : Code} {g : Nat} {fs cs : List Value} {α : Type} {enc : α → List Value} {S L0 R0 R : SH} {xs : List α} {C : List (Nat × Obj)} (hro : x.ro = none)
  (hf : ev E fo = some (.func (.func g) ⟨fs⟩ ⟨cs⟩)) [hF : ZJ x.P g] (hI : IterP x.P g fs cs enc ρ0 S C xs) (hle : ρ0.le ρ) (hps : ∀ y, (enc y).length = ps.length) (hpN : ps.all (fun p => Nat.blt p x.N) = true)
  (J : List α → Hp → SH → Prop) (Jx : Code → Hp → SH → Prop) (k1 : Xe L S R0) (k2 : Xe R0 L0 R) (h0 : J [] ρ L0) (hC : ∀ ρ Lu, J [] ρ Lu → ∃ A B, Lu = A ++ C :: B)
  (hround : ∀ l tm r pre y ρ' Lu u R', (pre ++ [y]) <+: xs → ρ0.le ρ' → J pre ρ' Lu → r.state = .ready → Rec tm ⟨ps⟩ assign body r →
   TC ⟨some l, x.P, u, [], x.N⟩ assign (Exit.then (KB x.P l body (RQ x.P u ρ' R' l (YP S (JH l (Rec tm ⟨ps⟩ assign body) (J (pre ++ [y]))) (XH l (Rec tm ⟨ps⟩ assign body) Jx)))) QF)
    (envP ps (enc y) E) ρ' ([(l, .loop r)] :: (S ++ (Lu ++ R'))))
  (hdone : ∀ D0 ρ' Lu, ρ.le ρ' → J xs ρ' Lu → TE { x with D := [{ target := .collected D0, args := #[] }] ++ x.D } .normal Q E ρ' ([(D0, .deferred (some []))] :: (S ++ (Lu ++ R))))
  (hstop : ∀ D0 c ρ' Lu, ρ.le ρ' → Jx c ρ' Lu → TC { x with D := [{ target := .collected D0, args := #[] }] ++ x.D } c Q E ρ' ([(D0, .deferred (some []))] :: (S ++ (Lu ++ R)))) :
  TC x (.rangeFunc fo ⟨ps⟩ assign body) Q E ρ L := fun a w ha hw => by
 obtain ⟨ro, P, u, D, N⟩ := x
 simp only at hro; subst hro
 dsimp only at *
 refine wpIn_rangeFunc fun fn _ => ?_
 have hw0 : Sat u ρ (S ++ (L0 ++ R)) w := hw.perm (by
  refine k1.out.trans ?_
  simp only [List.flatten_append]
  exact List.Perm.append_left _ (by simpa using k2.out))
 have hw1 := hw0.new (.deferred (some []))
 generalize hr0 : ({ state := .ready, pending := none, fn, tmps := a.tmps, params := ⟨ps⟩, assign, body, defers := w.heap.size } : Loop) = r0
 have hw2 := hw1.new (.loop r0)
 have hsz : ({ w with heap := w.heap.push (.deferred (some [])) } : World).heap.size = w.heap.size + 1 := by simp
 rw [hsz] at hw2
 have hrec0 : Rec a.tmps ⟨ps⟩ assign body r0 := by subst hr0; exact ⟨rfl, rfl, rfl, rfl⟩
 have hst0 : r0.state = .ready ∧ r0.pending = none := by subst hr0; exact ⟨rfl, rfl⟩
 have henter := run_enterLoop_outer (P := P) (w := w) fn a.tmps ⟨ps⟩ assign body
 rw [hr0] at henter
 have hres : (resolve a.eval (rangeCall fo (w.heap.size + 1)) 0).run P ((w.alloc (.deferred (some []))).alloc (.loop r0)) =
   .ok { target := .fn (.func g) ⟨cs⟩, args := ⟨fs ++ [.func (.yield (w.heap.size + 1)) ⟨[]⟩ ⟨[]⟩]⟩ } ((w.alloc (.deferred (some []))).alloc (.loop r0)) := by
  simp only [resolve, ha.eval hf, Deferred.ofValue, Sem.run_pure]
  simp [Act.eval]
 refine ⟨w.heap.size + 1, _, _, _, _, g, ⟨fs ++ [.func (.yield (w.heap.size + 1)) ⟨[]⟩ ⟨[]⟩] ++ cs⟩, (w.alloc (.deferred (some []))).alloc (.loop r0), henter, hres, fun _ _ => trivial, ?_, fun h => by simp [Fw, Fence.wide] at h, ?_⟩
 ·simp only [invoke]
  have := run_callFunc hF (⟨fs ++ [.func (.yield (w.heap.size + 1)) ⟨[]⟩ ⟨[]⟩]⟩ ++ ⟨cs⟩) ((w.alloc (.deferred (some []))).alloc (.loop r0))
  simpa using this
 generalize hl : w.heap.size + 1 = l at *
 generalize hD0 : w.heap.size = D0 at *
 have hy : ∀ pre y ρ' Lj, (pre ++ [y]) <+: xs → ρ0.le ρ' → JH l (Rec a.tmps ⟨ps⟩ assign body) (J pre) ρ' Lj → ZF P l (enc y) ρ' (S ++ Lj) (YP S (JH l (Rec a.tmps ⟨ps⟩ assign body) (J (pre ++ [y]))) (XH l (Rec a.tmps ⟨ps⟩ assign body) Jx)) := by
  intro pre y ρ' Lj hpre hle' hJ
  obtain ⟨r, Lu, rfl, hrs, hrp, hrr, hJu⟩ := hJ
  intro u' R' w' hw'
  have hlr := hw'.here (l, .loop r) (by simp)
  have hargs : (⟨enc y⟩ : Array Value).size = r.params.size := by rw [hrr.params]; simpa using hps y
  refine ⟨_, _, _, _, run_yield hlr hargs, ?_⟩
  have hround' := hround l a.tmps r pre y ρ' Lu u' R' hpre hle' hJu hrs hrr
  have hsat : Sat u' ρ' ([(l, .loop r)] :: (S ++ (Lu ++ R'))) w' := hw'.perm (by simp)
  have hok : Ok [] N (envP ps (enc y) E) { tmps := (r.params.zip ⟨enc y⟩).foldl (fun tmps (t, a) => tmps.setIfInBounds t a) r.tmps, defers := [] } := by
   have h1 : Ok [] N E { tmps := a.tmps, defers := [] } := ⟨rfl, ha.size, ha.get⟩
   have := Ok.putP ps (enc y) E a.tmps hpN h1
   rw [hrr.params, hrr.tmps]
   have e : ((⟨ps⟩ : Array Nat).zip ⟨enc y⟩) = ⟨ps.zip (enc y)⟩ := by simp
   rw [e]
   simpa using this
  have hwp := hround' _ w' hok hsat
  rw [hrr.assign, hrr.body]
  refine roundIn_of_wpIn (F := Fw none) (n := 0) trivial ?_
  exact hwp
 have hspec := hI l (fun pre => JH l (Rec a.tmps ⟨ps⟩ assign body) (J pre)) (XH l (Rec a.tmps ⟨ps⟩ assign body) Jx) (fun ρ Lj ⟨r, Lu, e1, _, _, _, e5⟩ => by
  obtain ⟨A, B, rfl⟩ := hC _ _ e5
  exact ⟨[(l, .loop r)] :: A, B, by rw [e1]; rfl⟩) hy ρ ([(l, .loop r0)] :: L0) hle ⟨r0, L0, rfl, hst0.1, hst0.2, hrec0, h0⟩
 have hcall := hspec u ([(D0, .deferred (some []))] :: R) ((w.alloc (.deferred (some []))).alloc (.loop r0)) (hw2.perm (by
  simp only [List.flatten_cons, List.flatten_append, List.append_assoc, List.cons_append, List.singleton_append, List.nil_append]
  refine List.Perm.trans (l₂ := S.flatten ++ ((l, .loop r0) :: (D0, .deferred (some [])) :: (L0.flatten ++ R.flatten))) ?_ ?_
  ·refine List.Perm.trans ?_ List.perm_middle.symm
   refine List.Perm.cons _ ?_
   exact List.perm_middle.symm
  ·refine List.Perm.append_left _ (List.Perm.cons _ ?_)
   exact List.perm_middle.symm))
 refine calls_ro (CallsIn.mono hcall ?_)
 rintro e w3 ⟨v, ρ', L', rfl, hle', hsat, Lj', rfl, hor⟩
 have perm4 : ∀ (c : List (Nat × Obj)) (Lu : SH), (S ++ (c :: Lu) ++ ([(D0, .deferred (some []))] :: R)).flatten.Perm (c :: ([(D0, .deferred (some []))] :: (S ++ (Lu ++ R)))).flatten := fun c Lu => by
  simp only [List.flatten_cons, List.flatten_append, List.append_assoc, List.cons_append, List.singleton_append, List.nil_append]
  refine List.Perm.trans ?_ (List.Perm.append_left c (List.perm_middle (l₁ := S.flatten ++ Lu.flatten) (a := (D0, .deferred (some []))) (l₂ := R.flatten) |>.trans (by simp)))
  rw [← List.append_assoc, ← List.append_assoc c]
  refine List.Perm.trans (List.Perm.append_right _ List.perm_append_comm) ?_
  simp only [List.append_assoc]
  exact List.Perm.refl _
 rcases hor with ⟨r, Lu, rfl, hrs, hrp, hrr, hJu⟩ | ⟨r, Lu, c, rfl, hrs, hrp, hrr, hJu⟩
 ·have hs1 := hsat.perm (perm4 [(l, .loop r)] Lu)
  have hlr := hs1.here (l, .loop r) (by simp)
  refine ⟨r.pending, _, run_endLoop hlr (by rw [hrs]; simp), ?_⟩
  rw [hrp]
  have hs2 := (hs1.put (.loop { r with state := .exhausted, pending := none })).sub (L' := [(D0, .deferred (some []))] :: (S ++ (Lu ++ R))) (by simp)
  exact hdone D0 ρ' Lu hle' hJu _ _ ⟨by simp [ha.defers], ha.size, ha.get⟩ hs2
 ·have hs1 := hsat.perm (perm4 [(l, .loop r)] Lu)
  have hlr := hs1.here (l, .loop r) (by simp)
  refine ⟨r.pending, _, run_endLoop hlr (by rw [hrs]; simp), ?_⟩
  rw [hrp]
  have hs2 := (hs1.put (.loop { r with state := .exhausted, pending := some c })).sub (L' := [(D0, .deferred (some []))] :: (S ++ (Lu ++ R))) (by simp)
  exact hstop D0 c ρ' Lu hle' hJu _ _ ⟨by simp [ha.defers], ha.size, ha.get⟩ hs2
end
end Go.Proofs.E
namespace Go.Proofs.E
open Go
set_option linter.unusedVariables false
set_option linter.unusedSimpArgs false
attribute [local irreducible] Yl TL TC TE Spec ZF R1 Hp.le EnvLe TS TR YS Zo
inductive Pl | o | f (ns : List Nat) (t : Pl) | e (n : Nat) (ns : List Nat) (t : Pl) | b (i j : Nat) (ns ms : List Nat) (s t : Pl) | c (i j k : Nat) (ns ms os : List Nat) (s t u : Pl)
def TP (ns : List Nat) (t : Pl) (G : Prop) : Prop := G
def QP (ns : List Nat) (t : Pl) (q : Exit → Act → World → Prop) : Exit → Act → World → Prop := q
section
variable {x : Cx} {Q : Exit → Act → World → Prop} {E : Env} {ρ ρ0 : Hp} {L Ls : SH} {ops : Array Oper} {rest : List Oper} {ty : TypeId} {pos : String} {af : Array Edge} {d : Nat} {v : Value} {dd : Option Nat} {gd : Nat × Bool} {op : Op} {l : List Oper} {listed : List Bool} {fuel : Nat} {tail : List Oper} {n : Nat} {ns : List Nat} {t : Pl}
theorem qR {d g : Nat} {f : Operand} {xs : List Operand} {ats : Array TypeId} {fs cs vs : List Value} {Lf Lg R : SH} {w : Value} {ρ1 : Hp} (hf : ev E f = some (.func (.func g) ⟨fs⟩ ⟨cs⟩)) (hv : evs E xs = some vs) [hF : ZJ x.P g]
  (S : Spec x.P g (fs ++ vs ++ cs) ρ Lf (fun v ρ' L' => v = w ∧ ρ' = ρ1 ∧ L' = Lg)) (k : TL x ops rest Q ((d, w) :: E) ρ1 (Lg ++ R)) (hT : Xe L Lf R := by exact tk) (hd : Nat.blt d x.N = true := by rfl) :
  TL x ops (⟨some d, .call { callee := .value f, args := ⟨xs⟩, argTypes := ats }, ty, pos, af, none⟩ :: rest) Q E ρ L := qC hf hv S (fun _ _ _ _ h => by obtain ⟨rfl, rfl, rfl⟩ := h; exact k) hT hd
theorem iT {P : Prop} (h : TP ns t P) : TP ns t P := h
theorem iQ {P : Prop} (h : TP (n :: ns) t P) : TP (n :: ns) t P := h
theorem iF {P : Prop} (h : TP [] (.f ns t) P) : TP [] (.f ns t) P := h
theorem iD {P : Prop} (h : TP [] .o P) : TP [] .o P := h
theorem iE {P : Prop} (h : TP [] (.e n ns t) P) : TP [] (.e n ns t) P := h
theorem iB {P : Prop} {i j : Nat} {ms : List Nat} {s : Pl} (h : TP [] (.b i j ns ms s t) P) : TP [] (.b i j ns ms s t) P := h
theorem iC {P : Prop} {i j k : Nat} {ms os : List Nat} {s u : Pl} (h : TP [] (.c i j k ns ms os s t u) P) : TP [] (.c i j k ns ms os s t u) P := h
theorem tpA (ns : List Nat) (t : Pl) (Ls : SH) {id : Nat} {R : SH} [hm : Mixed x.P] (h : TP ns t (TR x l (Zo x ρ Ls) l.length (List.replicate l.length false) Q E ρ L)) (hT : Xe L Ls R := by exact tk) : TC x (.region id l.toArray true) Q E ρ L := tc_any (Zo x ρ Ls) (Ve (hT := hT) (Hp.le_refl _)) h
theorem tpZ (ns : List Nat) (t : Pl) {id : Nat} [hm : Mixed x.P] (h : TP ns t (TR x l (Zo x ρ L) l.length (List.replicate l.length false) Q E ρ L)) : TC x (.region id l.toArray true) Q E ρ L := tc_any (Zo x ρ L) stays_refl h
theorem rQ (k : TP ns t (TR x l (Zo x ρ0 Ls) fuel (Wc listed n) Q ((d, v) :: E) ρ L)) (hi : l[n]? = some ⟨some d, op, ty, pos, af, none⟩ := by rfl) (hb : WC l listed n = true := by decide +kernel) (y : ∀ ρ', ρ0.le ρ' → Yl x op ty E ρ' Ls v := by intro _ _; exact yD) (hd : Nat.blt d x.N = true := by rfl) : TP (n :: ns) t (TR x l (Zo x ρ0 Ls) (fuel + 1) listed Q E ρ L) := tr_take n hb hi (ys_of' (fun _ h => h) y) hd k
theorem rW {j t0 : Nat} {b0 : Bool} (k : TP ns t (TR x l (Zo x ρ0 Ls) fuel (Wc listed n) Q ((d, v) :: E) ρ L)) (hi : l[n]? = some ⟨some d, op, ty, pos, af, some (j, b0)⟩ := by rfl) (hj : (l[j]?).bind (·.dst) = some t0 := by rfl) (he : lk E t0 = some (.bool b0) := by rfl) (hb : WC l listed n = true := by decide +kernel) (y : ∀ ρ', ρ0.le ρ' → Yl x op ty E ρ' Ls v := by intro _ _; exact yD) (hd : Nat.blt d x.N = true := by rfl) : TP (n :: ns) t (TR x l (Zo x ρ0 Ls) (fuel + 1) listed Q E ρ L) := tr_want n hb hi hj he (ys_of' (fun _ h => h) y) hd k
theorem rK {j t0 : Nat} {b c : Bool} (k : TP ns t (TR x l (Zo x ρ0 Ls) fuel (Wc listed n) Q ((d, undef) :: E) ρ L)) (hi : l[n]? = some ⟨some d, op, ty, pos, af, some (j, c)⟩ := by rfl) (hj : (l[j]?).bind (·.dst) = some t0 := by rfl) (he : lk E t0 = some (.bool b) := by rfl) (hbc : (b == c) = false := by rfl) (hb : WC l listed n = true := by decide +kernel) (hd : Nat.blt d x.N = true := by rfl) : TP (n :: ns) t (TR x l (Zo x ρ0 Ls) (fuel + 1) listed Q E ρ L) := tr_skip n hb hi hj he hbc hd k
theorem rU {j t0 : Nat} {c : Bool} (k : TP ns t (TR x l (Zo x ρ0 Ls) fuel (Wc listed n) Q ((d, undef) :: E) ρ L)) (hi : l[n]? = some ⟨some d, op, ty, pos, af, some (j, c)⟩ := by rfl) (hj : (l[j]?).bind (·.dst) = some t0 := by rfl) (he : lk E t0 = some undef := by rfl) (hb : WC l listed n = true := by decide +kernel) (hd : Nat.blt d x.N = true := by rfl) : TP (n :: ns) t (TR x l (Zo x ρ0 Ls) (fuel + 1) listed Q E ρ L) := tr_undef n hb hi (fun a ha => yl_undef ha (by simpa using hj) he) hd k
theorem rKe {j t0 : Nat} {b c : Bool} (k : TP ns t (TR x l (Zo x ρ0 Ls) fuel (Wc listed n) Q ((d, undef) :: E) ρ L)) (hi : l[n]? = some ⟨some d, op, ty, pos, af, some (j, c)⟩ := by rfl) (hj : (l[j]?).bind (·.dst) = some t0 := by rfl) (he : lk E t0 = some (.bool b) := by rfl) (hbc : (b == c) = false := by rfl) (hb : WC l listed n = true := by decide +kernel) (hd : Nat.blt d x.N = true := by rfl) : TP [] (.e n ns t) (TR x l (Zo x ρ0 Ls) (fuel + 1) listed Q E ρ L) := tr_skip n hb hi hj he hbc hd k
theorem rUe {j t0 : Nat} {c : Bool} (k : TP ns t (TR x l (Zo x ρ0 Ls) fuel (Wc listed n) Q ((d, undef) :: E) ρ L)) (hi : l[n]? = some ⟨some d, op, ty, pos, af, some (j, c)⟩ := by rfl) (hj : (l[j]?).bind (·.dst) = some t0 := by rfl) (he : lk E t0 = some undef := by rfl) (hb : WC l listed n = true := by decide +kernel) (hd : Nat.blt d x.N = true := by rfl) : TP [] (.e n ns t) (TR x l (Zo x ρ0 Ls) (fuel + 1) listed Q E ρ L) := tr_undef n hb hi (fun a ha => yl_undef ha (by simpa using hj) he) hd k
theorem rG {S : World → Prop} {j t0 : Nat} {b c : Bool} (h1 : b = true → TP (n :: ns) t (TR x l S fuel listed Q ((t0, .bool true) :: E) ρ L)) (h2 : b = false → TP (n :: ns) t (TR x l S fuel listed Q ((t0, .bool false) :: E) ρ L)) (hi : l[n]? = some ⟨dd, op, ty, pos, af, some (j, c)⟩ := by rfl) (hj : (l[j]?).bind (·.dst) = some t0 := by rfl) (he : lk E t0 = some (.bool b) := by rfl) :
  TP (n :: ns) t (TR x l S fuel listed Q E ρ L) := tr_guard he h1 h2
theorem rF {R : SH} (h : TP ns t (TR x l (Zo x ρ L) fuel listed Q E ρ L)) (hle : ρ0.le ρ := by first | assumption | exact Hp.le_refl _ | (refine Hp.le_trans ?_ (by assumption); assumption) | solve_by_elim (maxDepth := 6) [Hp.le_trans]) (hT : Xe L Ls R := by exact tk) : TP [] (.f ns t) (TR x l (Zo x ρ0 Ls) fuel listed Q E ρ L) := tr_full hle hT h
theorem rD {S : World → Prop} (h : TE x .normal Q E ρ L) (hr : Region.ready .any l.toArray ⟨listed⟩ = [] := by decide +kernel) : TP [] .o (TR x l S fuel listed Q E ρ L) := tr_done hr h
theorem rA {G P : Prop} (k : G) (h : G → TP ns t P := by
   intro k
   first
   | (refine iQ ?_; first | exact rQ k | exact rW k | exact rK k | exact rU k)
   | (refine iF ?_; exact rF k)
   | (refine iD ?_; exact rD k)
   | (refine iE ?_; first | exact rKe k | exact rUe k)) : TP ns t P := h k
theorem rAb {G P : Prop} (k : G) (h : G → TP ns t P := by
   intro k
   first
   | (refine iQ ?_; first | exact rQ k (y := by intro _ _; exact y_buildN rfl) | exact rQ k | exact rW k | exact rK k | exact rU k)
   | (refine iF ?_; exact rF k)
   | (refine iD ?_; exact rD k)
   | (refine iE ?_; first | exact rKe k | exact rUe k)) : TP ns t P := h k
theorem rE {o : Oper} (h : TL x l.toArray [o] (QP ns t (QR x l (Zo x ρ0 Ls) fuel (Wc listed n) Q)) E ρ L) (ho : l[n]? = some o := by rfl) (hr : Region.ready .any l.toArray ⟨listed⟩ = [n] := by decide +kernel) : TP [] (.e n ns t) (TR x l (Zo x ρ0 Ls) (fuel + 1) listed Q E ρ L) := tr_step1 hr ho h
theorem rB {i j : Nat} {ms : List Nat} {s : Pl} {o p : Oper} (h : TL x l.toArray [o] (QP ns s (QR x l (Zo x ρ0 Ls) fuel (Wc listed i) Q)) E ρ L) (h' : TL x l.toArray [p] (QP ms t (QR x l (Zo x ρ0 Ls) fuel (Wc listed j) Q)) E ρ L) (hr : Region.ready .any l.toArray ⟨listed⟩ = [i, j] := by decide +kernel) (ho : l[i]? = some o := by rfl) (hp : l[j]? = some p := by rfl) :
  TP [] (.b i j ns ms s t) (TR x l (Zo x ρ0 Ls) (fuel + 1) listed Q E ρ L) := tr_step2 hr ho hp h h'
theorem rC {i j k : Nat} {ms os : List Nat} {s u : Pl} {o p q : Oper} (h : TL x l.toArray [o] (QP ns s (QR x l (Zo x ρ0 Ls) fuel (Wc listed i) Q)) E ρ L) (h' : TL x l.toArray [p] (QP ms t (QR x l (Zo x ρ0 Ls) fuel (Wc listed j) Q)) E ρ L) (h'' : TL x l.toArray [q] (QP os u (QR x l (Zo x ρ0 Ls) fuel (Wc listed k) Q)) E ρ L) (hr : Region.ready .any l.toArray ⟨listed⟩ = [i, j, k] := by decide +kernel) (ho : l[i]? = some o := by rfl) (hp : l[j]? = some p := by rfl) (hq : l[k]? = some q := by rfl) :
  TP [] (.c i j k ns ms os s t u) (TR x l (Zo x ρ0 Ls) (fuel + 1) listed Q E ρ L) := rStep3 h h' h'' hr ho hp hq
theorem rN {R : SH} (h : TP ns t (TR x l (Zo x ρ0 Ls) fuel listed Q E ρ L)) (hle : ρ0.le ρ := by first | assumption | exact Hp.le_refl _ | (refine Hp.le_trans ?_ (by assumption); assumption) | solve_by_elim (maxDepth := 6) [Hp.le_trans]) (hT : Xe L Ls R := by exact tk) : TE x .normal (QP ns t (QR x l (Zo x ρ0 Ls) fuel listed Q)) E ρ L := te_any (Ve hle (hT := hT)) h
end
theorem zB {G P : Prop} (k : G) (h : G → P := by
   intro k
   first
   | (refine i_op ?_; first | (refine i_qq ?_; exact qQ k) | exact Yp k | exact qAn k | exact qXo k | exact qNt k)
   | exact Zi k
   | (refine i_tc ?_; exact qTc k)
   | (refine i_te ?_; exact qTe k)) : P := h k
theorem kA {α : Type _} : (∀ (a : α) (s t : List α), (a :: s) ++ t = a :: (s ++ t)) ∧ (∀ s : List α, [] ++ s = s) ∧ (∀ s t : List α, List.append s t = s ++ t) := ⟨fun _ _ _ => rfl, fun _ => rfl, fun _ _ => rfl⟩
end Go.Proofs.E
