/- Laws of analysis. Part 4 of 41. -/
import Derived.Test.YtkbiahafeoillaaGreatA3
import Derived.Test.YtkbiahafeoillaaGreatChecked
import Derived.KernelRfl
namespace Go.Proofs.E
open Go Go.Lib
set_option linter.unusedVariables false
set_option linter.unusedSimpArgs false
set_option linter.unusedSectionVars false
theorem Hp.up {ρ ρ' : Hp} (h : ρ.le ρ') {b : Nat} {o : Obj} (hb : ρ b = some o) : ρ' b = some o := h _ _ hb
section
variable {x : Cx} {Q : Exit → Act → World → Prop} {E : Env} {ρ : Hp} {L : SH} {ops : Array Oper} {rest : List Oper} {ty : TypeId} {pos : String} {af : Array Edge}
theorem q_get {P q : List Value} {o d : Nat} {v : Value} (hP : P.length = o) (h : q[d]? = some v) : (P ++ q)[o + d]? = some v := by
 rw [← hP, List.getElem?_append_right (by omega), Nat.add_sub_cancel_left, h]
theorem stc_q {P q q' : List Value} {o d : Nat} {vs : List Value} (hP : P.length = o) (h : stc q d vs = q') : stc (P ++ q) (o + d) vs = P ++ q' := by
 subst h
 unfold stc
 subst hP
 rw [List.take_append, List.take_of_length_le (by omega), Nat.add_sub_cancel_left, Nat.add_assoc, List.drop_append, List.drop_of_length_le (show P.length ≤ P.length + (d + vs.length) by omega), Nat.add_sub_cancel_left]
 simp only [List.nil_append, List.append_assoc]
theorem ZX {t b o d : Nat} {m p : Operand} {P q q' : List Value} {T : TypeId} {v : Value} {f : Obj → SH} (ho : ev E m = some (.pointer (some ⟨b, o + d, none⟩))) (hp : ev E p = some v) (hP : P.length = o) (h1 : v.oneCell' = true) [hZ : ZJ x.P t 1] [hU : Upd b L (.cells ⟨P ++ q⟩ T (0, 0)) f]
  [hS : SetL q d v q'] (k : TL x ops rest Q E ρ (f (.cells ⟨P ++ q'⟩ T (0, 0)))) :
  TL x ops (⟨none, .store t m p, ty, pos, af, none⟩ :: rest) Q E ρ L := by
 refine tl_store_s ho hp h1 (ble_le (by have := hS.out.1; simp only [List.length_append]; omega)) ?_
 rw [stc_q hP hS.out.2]
 exact k
end
theorem Spec.freeze {P : Program} {f : FuncId} {args : List Value} {ρ : Hp} {L : SH} {Post : Value → Hp → SH → Prop} {Post2 : Value → Hp → Prop} (h : Spec P f args ρ L Post)
  (k : ∀ v ρ' L', ρ.le ρ' → Post v ρ' L' → ∀ ρ2, ρ'.le ρ2 → (∀ p ∈ L'.flatten, ρ2 p.1 = some p.2) → Post2 v ρ2) : Spec P f args ρ L (fun v ρ2 L2 => Post2 v ρ2 ∧ L2 = []) := fun u R w hw => by
 refine (h u R w hw).mono ?_
 rintro e w' ⟨v, ρ', L', h2, h3, h4, h5⟩
 have h6 : Sat u ρ' (L'.flatten :: R) w' := h4.perm (by simp)
 obtain ⟨h7, hle, hf⟩ := h6.freeze
 exact ⟨v, _, [], h2, Hp.le_trans h3 hle, h7, k v ρ' L' h3 h5 _ hle hf, rfl⟩
section
variable {x : Cx} {Q : Exit → Act → World → Prop} {E : Env} {ρ : Hp} {L L1 L2 : SH} {ops : Array Oper} {l : List Oper} {c d : List (Nat × Obj)} {e : Exit} {y : Code}
theorem perm_split (h : Rem (c ++ d) L L1) : L.flatten.Perm (c :: d :: L1).flatten := h.out.trans (by simp)
theorem perm_merge (h : Rem c L L1) (k : Rem d L1 L2) : L.flatten.Perm ((c ++ d) :: L2).flatten := by
 refine h.out.trans ?_
 simp only [List.flatten_cons, List.append_assoc]
 exact List.Perm.append_left _ (by simpa using k.out)
theorem te_split (c d : List (Nat × Obj)) (k : TE x e Q E ρ (c :: d :: L1)) (h : Rem (c ++ d) L L1 := by repeat (first | exact ZD | apply ZA | apply rem_app')) : TE x e Q E ρ L := k.perm (perm_split h)
theorem te_merge (c d : List (Nat × Obj)) (k : TE x e Q E ρ ((c ++ d) :: L2)) (h : Rem c L L1 := by repeat (first | exact ZD | apply ZA | apply rem_app')) (h2 : Rem d L1 L2 := by repeat (first | exact ZD | apply ZA | apply rem_app')) : TE x e Q E ρ L := k.perm (perm_merge h h2)
end
instance (priority := 1100) eqC_four {P : Program} {m t e : Nat} {k : IntKind} [hA : TyArr P t 4 e] [hE : Xa P e k] [hS : TyS P e] {a b c d a' b' c' d' : Int} :
  EqC P (m + 2) t (.agg ⟨[.int k a, .int k b, .int k c, .int k d]⟩) (.agg ⟨[.int k a', .int k b', .int k c', .int k d']⟩) (decide (a = a' ∧ b = b' ∧ c = c' ∧ d = d')) := ⟨fun dd w hdd => by
 obtain ⟨dd, rfl⟩ : ∃ d', dd = d' + 2 := ⟨dd - 2, by omega⟩
 obtain ⟨ds, i, g1, g2, g3, g4⟩ := hS.out
 have hag : ∀ w, (isAgg e).run P w = .ok false w := fun w => by
  simp only [isAgg, underlying, Sem.run_bind, run_program, Result.andThen_ok, g1, Sem.run_pure]
  cases ds <;> simp_all
 have hcl : P.cellsOf e = 1 := by simp [Program.cellsOf, g3, g4]
 have hp : ∀ (x : Array Value) (j : Nat) (v : Value) (w : World), x[j]? = some v → (part e x j).run P w = .ok v w := fun x j v w h => by
  simp [part, hag, h]
 have hr := fun (x y : Int) (w : World) => run_equalIn_int (P := P) w dd e k k x y hE.out
 rw [run_equalIn_array w (dd + 1) _ _ hA.out g3, show List.range 4 = [0, 1, 2, 3] from rfl]
 have q0 := fun w => hp ⟨[.int k a, .int k b, .int k c, .int k d]⟩ 0 (.int k a) w rfl
 have q1 := fun w => hp ⟨[.int k a, .int k b, .int k c, .int k d]⟩ 1 (.int k b) w rfl
 have q2 := fun w => hp ⟨[.int k a, .int k b, .int k c, .int k d]⟩ 2 (.int k c) w rfl
 have q3 := fun w => hp ⟨[.int k a, .int k b, .int k c, .int k d]⟩ 3 (.int k d) w rfl
 have p0 := fun w => hp ⟨[.int k a', .int k b', .int k c', .int k d']⟩ 0 (.int k a') w rfl
 have p1 := fun w => hp ⟨[.int k a', .int k b', .int k c', .int k d']⟩ 1 (.int k b') w rfl
 have p2 := fun w => hp ⟨[.int k a', .int k b', .int k c', .int k d']⟩ 2 (.int k c') w rfl
 have p3 := fun w => hp ⟨[.int k a', .int k b', .int k c', .int k d']⟩ 3 (.int k d') w rfl
 simp only [Op.eqItems, Sem.run_bind, hcl, Nat.mul_one, q0, p0, q1, p1, q2, p2, q3, p3, Result.andThen_ok, hr]
 cases h0 : (a == a') <;> cases h1 : (b == b') <;> cases h2 : (c == c') <;> cases h3 : (d == d') <;> simp only [h0, h1, h2, h3, Bool.not_true, Bool.not_false, if_true, if_false, Bool.false_eq_true, Sem.run_bind, Sem.run_pure, q1, p1, q2, p2, q3, p3, hr, Result.andThen_ok, Op.eqItems]
 all_goals (congr 1; simp only [beq_iff_eq, beq_eq_false_iff_ne] at h0 h1 h2 h3; simp [h0, h1, h2, h3])⟩
end Go.Proofs.E
namespace Go.Proofs.E
open Go
set_option linter.unusedVariables false
set_option linter.unusedSimpArgs false
attribute [local irreducible] Yl TL TC TE Spec Xb R1 Hp.le EnvLe TS TR YS Zk
theorem zW {G P : Prop} (k : G) (h : G → P := by
   intro k
   first
   | (refine i_op ?_; first | (refine Xv ?_; exact qQ k) | exact ZF k)
   | exact Zf k
   | (refine i_tc ?_; exact qTc k)
   | (refine i_te ?_; exact qTe k)) : P := h k
theorem zV {G P : Prop} (k : G) (h : G → P := by
   intro k
   first
   | (refine iBu ?_; exact tl_y (y_buildN rfl) rfl rfl k)
   | (refine i_op ?_; first | (refine Xv ?_; exact qQ k) | exact ZF k)
   | exact Zf k
   | (refine i_tc ?_; exact qTc k)
   | (refine i_te ?_; exact qTe k)) : P := h k
end Go.Proofs.E
namespace Go.Proofs.E
open Go Go.Proofs.E
set_option linter.unusedVariables false
theorem tqI {t : TypeId} {b : Bool} (h : (Tryz.prog.underlying t).map isIfaceD = some b := by kernel_rfl) : Zs Tryz.prog t b := mkTyIface h
theorem tqS {t : TypeId} (h : (Tryz.prog.underlying t).map isAggD = some false := by kernel_rfl) (k : (Tryz.prog.info? t).map (·.size) = some 1 := by kernel_rfl) : TyS Tryz.prog t := mkTyS h k
theorem tqA {t : TypeId} {n : Nat} (h : (Tryz.prog.underlying t).map isAggD = some true := by kernel_rfl) (k : (Tryz.prog.info? t).map (·.size) = some n := by kernel_rfl) : TyA Tryz.prog t n := mkTyA h k
theorem tqN {t : TypeId} {n : Nat} (k : (Tryz.prog.info? t).map (·.size) = some n := by kernel_rfl) : ZJ Tryz.prog t n := mkTySz k
theorem tqB {t : TypeId} {n : Nat} (k : (Tryz.prog.info? t).map (·.bytes) = some n := by kernel_rfl) : Zr Tryz.prog t n := mkTyBytes k
theorem tqO {t : TypeId} {z : Value} (k : (Tryz.prog.info? t).bind (·.zero) = some z := by kernel_rfl) : Zt Tryz.prog t z := mkTyZero k
theorem tqF {t : TypeId} (h : (Tryz.prog.underlying t).map isFuncD = some true := by kernel_rfl) : YB Tryz.prog t := mkTyFunc h
theorem tqD {s : TypeId} {f off : Nat} {ft : TypeId} (h : fldB Tryz.prog s f = some (off, ft) := by kernel_rfl) : Yv Tryz.prog s f off ft := mkFld h
theorem Yh {f : FuncId} (h : funB Tryz.prog f = true := by kernel_rfl) : Ya Tryz.prog f := mkFun h
instance : TyS Tryz.prog 1 := tqS
instance : Zs Tryz.prog 1 false := tqI
instance : YB Tryz.prog 1 := tqF
instance : ZJ Tryz.prog 1 1 := tqN
instance : Zr Tryz.prog 1 8 := tqB
instance : Zt Tryz.prog 1 (.nilFunc) := tqO
instance : TyS Tryz.prog 2 := tqS
instance : Zs Tryz.prog 2 false := tqI
instance : ZJ Tryz.prog 2 1 := tqN
instance : Zr Tryz.prog 2 8 := tqB
instance : Zt Tryz.prog 2 (.int .i64 0) := tqO
instance : Xa Tryz.prog 2 .i64 := ⟨by kernel_rfl⟩
instance : TyS Tryz.prog 3 := tqS
instance : Zs Tryz.prog 3 false := tqI
instance : ZJ Tryz.prog 3 1 := tqN
instance : Zr Tryz.prog 3 8 := tqB
instance : Zt Tryz.prog 3 (.int .i64 0) := tqO
instance : Xa Tryz.prog 3 .i64 := ⟨by kernel_rfl⟩
instance : TyS Tryz.prog 4 := tqS
instance : Zs Tryz.prog 4 false := tqI
instance : ZJ Tryz.prog 4 1 := tqN
instance : Zr Tryz.prog 4 1 := tqB
instance : Zt Tryz.prog 4 (.bool false) := tqO
instance : TyBool Tryz.prog 4 := ⟨by kernel_rfl⟩
instance : TyS Tryz.prog 5 := tqS
instance : Zs Tryz.prog 5 false := tqI
instance : ZJ Tryz.prog 5 1 := tqN
instance : Zr Tryz.prog 5 1 := tqB
instance : Zt Tryz.prog 5 (.int .u8 0) := tqO
instance : Xa Tryz.prog 5 .u8 := ⟨by kernel_rfl⟩
instance : TyA Tryz.prog 7 4 := tqA
instance : Zs Tryz.prog 7 false := tqI
instance : ZJ Tryz.prog 7 4 := tqN
instance : Zr Tryz.prog 7 24 := tqB
instance : Zt Tryz.prog 7 (.agg ⟨[.int .i64 0, .int .i64 0, .bool false, .int .u8 0]⟩) := tqO
instance : ZT Tryz.prog 7 := ⟨by kernel_rfl⟩
instance : Yv Tryz.prog 7 0 0 2 := tqD
instance : Yv Tryz.prog 7 1 1 3 := tqD
instance : Yv Tryz.prog 7 2 2 4 := tqD
instance : Yv Tryz.prog 7 3 3 6 := tqD
instance : ZO Tryz.prog 7 (([(0, 1), (1, 1), (2, 1), (3, 1)] : List (Nat × Nat))[·]?) := ZK (by kernel_rfl)
instance : TyS Tryz.prog 9 := tqS
instance : Zs Tryz.prog 9 false := tqI
instance : ZJ Tryz.prog 9 1 := tqN
instance : Zr Tryz.prog 9 16 := tqB
instance : Zt Tryz.prog 9 (.string ⟨⟨[]⟩⟩) := tqO
instance : TyStr Tryz.prog 9 := ⟨by kernel_rfl⟩
instance : TyS Tryz.prog 12 := tqS
instance : Zs Tryz.prog 12 false := tqI
instance : ZJ Tryz.prog 12 1 := tqN
instance : Zr Tryz.prog 12 8 := tqB
instance : Zt Tryz.prog 12 (.int .u64 0) := tqO
instance : Xa Tryz.prog 12 .u64 := ⟨by kernel_rfl⟩
instance : TyS Tryz.prog 16 := tqS
instance : Zs Tryz.prog 16 false := tqI
instance : ZJ Tryz.prog 16 1 := tqN
instance : Zr Tryz.prog 16 8 := tqB
instance : Zt Tryz.prog 16 (.pointer none) := tqO
instance : TyPtr Tryz.prog 16 274 := ⟨by kernel_rfl⟩
instance : TyS Tryz.prog 17 := tqS
instance : Zs Tryz.prog 17 false := tqI
instance : ZJ Tryz.prog 17 1 := tqN
instance : Zr Tryz.prog 17 8 := tqB
instance : Zt Tryz.prog 17 (.pointer none) := tqO
instance : TyPtr Tryz.prog 17 283 := ⟨by kernel_rfl⟩
instance : TyS Tryz.prog 20 := tqS
instance : Zs Tryz.prog 20 true := tqI
instance : ZJ Tryz.prog 20 1 := tqN
instance : Zr Tryz.prog 20 16 := tqB
instance : Zt Tryz.prog 20 (.nilIface) := tqO
instance : TyS Tryz.prog 21 := tqS
instance : Zs Tryz.prog 21 false := tqI
instance : ZJ Tryz.prog 21 1 := tqN
instance : Zr Tryz.prog 21 4 := tqB
instance : Zt Tryz.prog 21 (.int .i32 0) := tqO
instance : Xa Tryz.prog 21 .i32 := ⟨by kernel_rfl⟩
instance : TyS Tryz.prog 22 := tqS
instance : Zs Tryz.prog 22 false := tqI
instance : ZJ Tryz.prog 22 1 := tqN
instance : Zr Tryz.prog 22 24 := tqB
instance : Zt Tryz.prog 22 (.slice none 0 0) := tqO
instance : ZV Tryz.prog 22 36 := ⟨by kernel_rfl⟩
instance : TyS Tryz.prog 23 := tqS
instance : Zs Tryz.prog 23 false := tqI
instance : YB Tryz.prog 23 := tqF
instance : ZJ Tryz.prog 23 1 := tqN
instance : Zr Tryz.prog 23 8 := tqB
instance : Zt Tryz.prog 23 (.nilFunc) := tqO
instance : TyS Tryz.prog 24 := tqS
instance : Zs Tryz.prog 24 false := tqI
instance : ZJ Tryz.prog 24 1 := tqN
instance : Zr Tryz.prog 24 24 := tqB
instance : Zt Tryz.prog 24 (.slice none 0 0) := tqO
instance : ZV Tryz.prog 24 45 := ⟨by kernel_rfl⟩
instance : TyA Tryz.prog 25 2 := tqA
instance : Zs Tryz.prog 25 false := tqI
instance : ZJ Tryz.prog 25 2 := tqN
instance : Zr Tryz.prog 25 32 := tqB
instance : Zt Tryz.prog 25 (.agg ⟨[.int .i64 0, .slice none 0 0]⟩) := tqO
instance : ZT Tryz.prog 25 := ⟨by kernel_rfl⟩
instance : Yv Tryz.prog 25 0 0 3 := tqD
instance : Yv Tryz.prog 25 1 1 24 := tqD
instance : ZO Tryz.prog 25 (([(0, 1), (1, 1)] : List (Nat × Nat))[·]?) := ZK (by kernel_rfl)
instance : TyA Tryz.prog 26 2 := tqA
instance : Zs Tryz.prog 26 false := tqI
instance : ZJ Tryz.prog 26 2 := tqN
instance : Zr Tryz.prog 26 32 := tqB
instance : Zt Tryz.prog 26 (.agg ⟨[.int .i64 0, .slice none 0 0]⟩) := tqO
instance : ZT Tryz.prog 26 := ⟨by kernel_rfl⟩
instance : XL Tryz.prog 26 [(0, 3), (1, 24)] := Xc (by kernel_rfl)
instance : Yv Tryz.prog 26 0 0 3 := tqD
instance : Yv Tryz.prog 26 1 1 24 := tqD
instance : ZO Tryz.prog 26 (([(0, 1), (1, 1)] : List (Nat × Nat))[·]?) := ZK (by kernel_rfl)
instance : TyS Tryz.prog 28 := tqS
instance : Zs Tryz.prog 28 false := tqI
instance : ZJ Tryz.prog 28 1 := tqN
instance : Zr Tryz.prog 28 8 := tqB
instance : Zt Tryz.prog 28 (.int .u64 0) := tqO
instance : Xa Tryz.prog 28 .u64 := ⟨by kernel_rfl⟩
instance : TyS Tryz.prog 29 := tqS
instance : Zs Tryz.prog 29 false := tqI
instance : ZJ Tryz.prog 29 1 := tqN
instance : Zr Tryz.prog 29 24 := tqB
instance : Zt Tryz.prog 29 (.slice none 0 0) := tqO
instance : ZV Tryz.prog 29 100 := ⟨by kernel_rfl⟩
instance : TyS Tryz.prog 30 := tqS
instance : Zs Tryz.prog 30 false := tqI
instance : ZJ Tryz.prog 30 1 := tqN
instance : Zr Tryz.prog 30 24 := tqB
instance : Zt Tryz.prog 30 (.slice none 0 0) := tqO
instance : ZV Tryz.prog 30 60 := ⟨by kernel_rfl⟩
instance : TyS Tryz.prog 31 := tqS
instance : Zs Tryz.prog 31 false := tqI
instance : ZJ Tryz.prog 31 1 := tqN
instance : Zr Tryz.prog 31 24 := tqB
instance : Zt Tryz.prog 31 (.slice none 0 0) := tqO
instance : ZV Tryz.prog 31 169 := ⟨by kernel_rfl⟩
instance : TyS Tryz.prog 32 := tqS
instance : Zs Tryz.prog 32 false := tqI
instance : ZJ Tryz.prog 32 1 := tqN
instance : Zr Tryz.prog 32 24 := tqB
instance : Zt Tryz.prog 32 (.slice none 0 0) := tqO
instance : ZV Tryz.prog 32 92 := ⟨by kernel_rfl⟩
instance : TyA Tryz.prog 33 10 := tqA
instance : Zs Tryz.prog 33 false := tqI
instance : ZJ Tryz.prog 33 10 := tqN
instance : Zr Tryz.prog 33 144 := tqB
instance : Zt Tryz.prog 33 (.agg ⟨[.int .i64 0, .int .u64 0, .int .i64 0, .int .u64 0, .int .u64 0, .slice none 0 0, .slice none 0 0, .int .i64 0, .slice none 0 0, .slice none 0 0]⟩) := tqO
instance : ZT Tryz.prog 33 := ⟨by kernel_rfl⟩
instance : Yv Tryz.prog 33 0 0 3 := tqD
instance : Yv Tryz.prog 33 1 1 28 := tqD
instance : Yv Tryz.prog 33 2 2 3 := tqD
instance : Yv Tryz.prog 33 3 3 28 := tqD
instance : Yv Tryz.prog 33 4 4 28 := tqD
instance : Yv Tryz.prog 33 5 5 29 := tqD
instance : Yv Tryz.prog 33 6 6 30 := tqD
instance : Yv Tryz.prog 33 7 7 3 := tqD
instance : Yv Tryz.prog 33 8 8 31 := tqD
instance : Yv Tryz.prog 33 9 9 32 := tqD
instance : ZO Tryz.prog 33 (([(0, 1), (1, 1), (2, 1), (3, 1), (4, 1), (5, 1), (6, 1), (7, 1), (8, 1), (9, 1)] : List (Nat × Nat))[·]?) := ZK (by kernel_rfl)
instance : TyA Tryz.prog 34 10 := tqA
instance : Zs Tryz.prog 34 false := tqI
instance : ZJ Tryz.prog 34 10 := tqN
instance : Zr Tryz.prog 34 144 := tqB
instance : Zt Tryz.prog 34 (.agg ⟨[.int .i64 0, .int .u64 0, .int .i64 0, .int .u64 0, .int .u64 0, .slice none 0 0, .slice none 0 0, .int .i64 0, .slice none 0 0, .slice none 0 0]⟩) := tqO
instance : ZT Tryz.prog 34 := ⟨by kernel_rfl⟩
instance : XL Tryz.prog 34 [(0, 3), (1, 28), (2, 3), (3, 28), (4, 28), (5, 29), (6, 30), (7, 3), (8, 31), (9, 32)] := Xc (by kernel_rfl)
instance : Yv Tryz.prog 34 0 0 3 := tqD
instance : Yv Tryz.prog 34 1 1 28 := tqD
instance : Yv Tryz.prog 34 2 2 3 := tqD
instance : Yv Tryz.prog 34 3 3 28 := tqD
instance : Yv Tryz.prog 34 4 4 28 := tqD
instance : Yv Tryz.prog 34 5 5 29 := tqD
instance : Yv Tryz.prog 34 6 6 30 := tqD
instance : Yv Tryz.prog 34 7 7 3 := tqD
instance : Yv Tryz.prog 34 8 8 31 := tqD
instance : Yv Tryz.prog 34 9 9 32 := tqD
instance : ZO Tryz.prog 34 (([(0, 1), (1, 1), (2, 1), (3, 1), (4, 1), (5, 1), (6, 1), (7, 1), (8, 1), (9, 1)] : List (Nat × Nat))[·]?) := ZK (by kernel_rfl)
instance : TyA Tryz.prog 35 15 := tqA
instance : Zs Tryz.prog 35 false := tqI
instance : ZJ Tryz.prog 35 15 := tqN
instance : Zr Tryz.prog 35 184 := tqB
instance : Zt Tryz.prog 35 (.agg ⟨[.int .i64 0, .int .i64 0, .int .i64 0, .int .i64 0, .bool false, .int .i64 0, .int .u64 0, .int .i64 0, .int .u64 0, .int .u64 0, .slice none 0 0, .slice none 0 0, .int .i64 0, .slice none 0 0, .slice none 0 0]⟩) := tqO
instance : ZT Tryz.prog 35 := ⟨by kernel_rfl⟩
instance : Yv Tryz.prog 35 0 0 3 := tqD
instance : Yv Tryz.prog 35 1 1 3 := tqD
instance : Yv Tryz.prog 35 2 2 3 := tqD
instance : Yv Tryz.prog 35 3 3 3 := tqD
instance : Yv Tryz.prog 35 4 4 4 := tqD
instance : Yv Tryz.prog 35 5 5 34 := tqD
instance : ZO Tryz.prog 35 (([(0, 1), (1, 1), (2, 1), (3, 1), (4, 1), (5, 10)] : List (Nat × Nat))[·]?) := ZK (by kernel_rfl)
instance : TyA Tryz.prog 36 15 := tqA
instance : Zs Tryz.prog 36 false := tqI
instance : ZJ Tryz.prog 36 15 := tqN
instance : Zr Tryz.prog 36 184 := tqB
instance : Zt Tryz.prog 36 (.agg ⟨[.int .i64 0, .int .i64 0, .int .i64 0, .int .i64 0, .bool false, .int .i64 0, .int .u64 0, .int .i64 0, .int .u64 0, .int .u64 0, .slice none 0 0, .slice none 0 0, .int .i64 0, .slice none 0 0, .slice none 0 0]⟩) := tqO
instance : ZT Tryz.prog 36 := ⟨by kernel_rfl⟩
instance : XL Tryz.prog 36 [(0, 3), (1, 3), (2, 3), (3, 3), (4, 4), (5, 34)] := Xc (by kernel_rfl)
instance : Yv Tryz.prog 36 0 0 3 := tqD
instance : Yv Tryz.prog 36 1 1 3 := tqD
instance : Yv Tryz.prog 36 2 2 3 := tqD
instance : Yv Tryz.prog 36 3 3 3 := tqD
instance : Yv Tryz.prog 36 4 4 4 := tqD
instance : Yv Tryz.prog 36 5 5 34 := tqD
instance : ZO Tryz.prog 36 (([(0, 1), (1, 1), (2, 1), (3, 1), (4, 1), (5, 10)] : List (Nat × Nat))[·]?) := ZK (by kernel_rfl)
instance : TyS Tryz.prog 37 := tqS
instance : Zs Tryz.prog 37 false := tqI
instance : ZJ Tryz.prog 37 1 := tqN
instance : Zr Tryz.prog 37 8 := tqB
instance : Zt Tryz.prog 37 (.int .i64 0) := tqO
instance : Xa Tryz.prog 37 .i64 := ⟨by kernel_rfl⟩
instance : TyS Tryz.prog 40 := tqS
instance : Zs Tryz.prog 40 false := tqI
instance : YB Tryz.prog 40 := tqF
instance : ZJ Tryz.prog 40 1 := tqN
instance : Zr Tryz.prog 40 8 := tqB
instance : Zt Tryz.prog 40 (.nilFunc) := tqO
instance : TyS Tryz.prog 42 := tqS
instance : Zs Tryz.prog 42 false := tqI
instance : ZJ Tryz.prog 42 1 := tqN
instance : Zr Tryz.prog 42 24 := tqB
instance : Zt Tryz.prog 42 (.slice none 0 0) := tqO
instance : ZV Tryz.prog 42 108 := ⟨by kernel_rfl⟩
instance : TyS Tryz.prog 43 := tqS
instance : Zs Tryz.prog 43 false := tqI
instance : ZJ Tryz.prog 43 1 := tqN
instance : Zr Tryz.prog 43 24 := tqB
instance : Zt Tryz.prog 43 (.slice none 0 0) := tqO
instance : ZV Tryz.prog 43 28 := ⟨by kernel_rfl⟩
instance : TyA Tryz.prog 44 7 := tqA
instance : Zs Tryz.prog 44 false := tqI
instance : ZJ Tryz.prog 44 7 := tqN
instance : Zr Tryz.prog 44 88 := tqB
instance : Zt Tryz.prog 44 (.agg ⟨[.int .i64 0, .int .i64 0, .int .u64 0, .int .u64 0, .int .u64 0, .slice none 0 0, .slice none 0 0]⟩) := tqO
instance : ZT Tryz.prog 44 := ⟨by kernel_rfl⟩
instance : Yv Tryz.prog 44 0 0 3 := tqD
instance : Yv Tryz.prog 44 1 1 3 := tqD
instance : Yv Tryz.prog 44 2 2 28 := tqD
instance : Yv Tryz.prog 44 3 3 28 := tqD
instance : Yv Tryz.prog 44 4 4 28 := tqD
instance : Yv Tryz.prog 44 5 5 42 := tqD
instance : Yv Tryz.prog 44 6 6 43 := tqD
instance : ZO Tryz.prog 44 (([(0, 1), (1, 1), (2, 1), (3, 1), (4, 1), (5, 1), (6, 1)] : List (Nat × Nat))[·]?) := ZK (by kernel_rfl)
instance : TyA Tryz.prog 45 7 := tqA
instance : Zs Tryz.prog 45 false := tqI
instance : ZJ Tryz.prog 45 7 := tqN
instance : Zr Tryz.prog 45 88 := tqB
instance : Zt Tryz.prog 45 (.agg ⟨[.int .i64 0, .int .i64 0, .int .u64 0, .int .u64 0, .int .u64 0, .slice none 0 0, .slice none 0 0]⟩) := tqO
instance : ZT Tryz.prog 45 := ⟨by kernel_rfl⟩
instance : XL Tryz.prog 45 [(0, 3), (1, 3), (2, 28), (3, 28), (4, 28), (5, 42), (6, 43)] := Xc (by kernel_rfl)
instance : Yv Tryz.prog 45 0 0 3 := tqD
instance : Yv Tryz.prog 45 1 1 3 := tqD
instance : Yv Tryz.prog 45 2 2 28 := tqD
instance : Yv Tryz.prog 45 3 3 28 := tqD
instance : Yv Tryz.prog 45 4 4 28 := tqD
instance : Yv Tryz.prog 45 5 5 42 := tqD
instance : Yv Tryz.prog 45 6 6 43 := tqD
instance : ZO Tryz.prog 45 (([(0, 1), (1, 1), (2, 1), (3, 1), (4, 1), (5, 1), (6, 1)] : List (Nat × Nat))[·]?) := ZK (by kernel_rfl)
instance : TyS Tryz.prog 54 := tqS
instance : Zs Tryz.prog 54 false := tqI
instance : ZJ Tryz.prog 54 1 := tqN
instance : Zr Tryz.prog 54 2 := tqB
instance : Zt Tryz.prog 54 (.int .u16 0) := tqO
instance : Xa Tryz.prog 54 .u16 := ⟨by kernel_rfl⟩
instance : TyA Tryz.prog 55 2 := tqA
instance : Zs Tryz.prog 55 false := tqI
instance : ZJ Tryz.prog 55 2 := tqN
instance : Zr Tryz.prog 55 16 := tqB
instance : Zt Tryz.prog 55 (.agg ⟨[.int .i64 0, .int .u16 0]⟩) := tqO
instance : ZT Tryz.prog 55 := ⟨by kernel_rfl⟩
instance : Yv Tryz.prog 55 0 0 3 := tqD
instance : Yv Tryz.prog 55 1 1 54 := tqD
instance : ZO Tryz.prog 55 (([(0, 1), (1, 1)] : List (Nat × Nat))[·]?) := ZK (by kernel_rfl)
instance : TyA Tryz.prog 56 2 := tqA
instance : Zs Tryz.prog 56 false := tqI
instance : ZJ Tryz.prog 56 2 := tqN
instance : Zr Tryz.prog 56 16 := tqB
instance : Zt Tryz.prog 56 (.agg ⟨[.int .i64 0, .int .u16 0]⟩) := tqO
instance : ZT Tryz.prog 56 := ⟨by kernel_rfl⟩
instance : XL Tryz.prog 56 [(0, 3), (1, 54)] := Xc (by kernel_rfl)
instance : Yv Tryz.prog 56 0 0 3 := tqD
instance : Yv Tryz.prog 56 1 1 54 := tqD
instance : ZO Tryz.prog 56 (([(0, 1), (1, 1)] : List (Nat × Nat))[·]?) := ZK (by kernel_rfl)
instance : TyA Tryz.prog 57 4 := tqA
instance : Zs Tryz.prog 57 false := tqI
instance : ZJ Tryz.prog 57 4 := tqN
instance : Zr Tryz.prog 57 40 := tqB
instance : Zt Tryz.prog 57 (.agg ⟨[.int .i64 0, .int .u16 0, .int .i64 0, .string ⟨⟨[]⟩⟩]⟩) := tqO
instance : ZT Tryz.prog 57 := ⟨by kernel_rfl⟩
instance : Yv Tryz.prog 57 0 0 56 := tqD
instance : Yv Tryz.prog 57 1 2 2 := tqD
instance : Yv Tryz.prog 57 2 3 9 := tqD
instance : ZO Tryz.prog 57 (([(0, 2), (2, 1), (3, 1)] : List (Nat × Nat))[·]?) := ZK (by kernel_rfl)
instance : TyA Tryz.prog 58 4 := tqA
instance : Zs Tryz.prog 58 false := tqI
instance : ZJ Tryz.prog 58 4 := tqN
instance : Zr Tryz.prog 58 40 := tqB
instance : Zt Tryz.prog 58 (.agg ⟨[.int .i64 0, .int .u16 0, .int .i64 0, .string ⟨⟨[]⟩⟩]⟩) := tqO
instance : ZT Tryz.prog 58 := ⟨by kernel_rfl⟩
instance : XL Tryz.prog 58 [(0, 56), (2, 2), (3, 9)] := Xc (by kernel_rfl)
instance : Yv Tryz.prog 58 0 0 56 := tqD
instance : Yv Tryz.prog 58 1 2 2 := tqD
instance : Yv Tryz.prog 58 2 3 9 := tqD
instance : ZO Tryz.prog 58 (([(0, 2), (2, 1), (3, 1)] : List (Nat × Nat))[·]?) := ZK (by kernel_rfl)
instance : TyA Tryz.prog 59 6 := tqA
instance : Zs Tryz.prog 59 false := tqI
instance : ZJ Tryz.prog 59 6 := tqN
instance : Zr Tryz.prog 59 56 := tqB
instance : Zt Tryz.prog 59 (.agg ⟨[.int .i64 0, .int .i64 0, .int .u16 0, .int .i64 0, .string ⟨⟨[]⟩⟩, .int .i64 0]⟩) := tqO
instance : ZT Tryz.prog 59 := ⟨by kernel_rfl⟩
instance : Yv Tryz.prog 59 0 0 3 := tqD
instance : Yv Tryz.prog 59 1 1 58 := tqD
instance : Yv Tryz.prog 59 2 5 2 := tqD
instance : ZO Tryz.prog 59 (([(0, 1), (1, 4), (5, 1)] : List (Nat × Nat))[·]?) := ZK (by kernel_rfl)
instance : TyA Tryz.prog 60 6 := tqA
instance : Zs Tryz.prog 60 false := tqI
instance : ZJ Tryz.prog 60 6 := tqN
instance : Zr Tryz.prog 60 56 := tqB
instance : Zt Tryz.prog 60 (.agg ⟨[.int .i64 0, .int .i64 0, .int .u16 0, .int .i64 0, .string ⟨⟨[]⟩⟩, .int .i64 0]⟩) := tqO
instance : ZT Tryz.prog 60 := ⟨by kernel_rfl⟩
instance : XL Tryz.prog 60 [(0, 3), (1, 58), (5, 2)] := Xc (by kernel_rfl)
instance : Yv Tryz.prog 60 0 0 3 := tqD
instance : Yv Tryz.prog 60 1 1 58 := tqD
instance : Yv Tryz.prog 60 2 5 2 := tqD
instance : ZO Tryz.prog 60 (([(0, 1), (1, 4), (5, 1)] : List (Nat × Nat))[·]?) := ZK (by kernel_rfl)
instance : TyS Tryz.prog 64 := tqS
instance : Zs Tryz.prog 64 false := tqI
instance : YB Tryz.prog 64 := tqF
instance : ZJ Tryz.prog 64 1 := tqN
instance : Zr Tryz.prog 64 8 := tqB
instance : Zt Tryz.prog 64 (.nilFunc) := tqO
instance : TyA Tryz.prog 66 7 := tqA
instance : Zs Tryz.prog 66 false := tqI
instance : ZJ Tryz.prog 66 7 := tqN
instance : Zr Tryz.prog 66 88 := tqB
instance : Zt Tryz.prog 66 (.agg ⟨[.int .u64 0, .int .u64 0, .int .u64 0, .int .u64 0, .int .i64 0, .slice none 0 0, .slice none 0 0]⟩) := tqO
instance : ZT Tryz.prog 66 := ⟨by kernel_rfl⟩
instance : Yv Tryz.prog 66 0 0 28 := tqD
instance : Yv Tryz.prog 66 1 1 28 := tqD
instance : Yv Tryz.prog 66 2 2 28 := tqD
instance : Yv Tryz.prog 66 3 3 28 := tqD
instance : Yv Tryz.prog 66 4 4 26 := tqD
instance : Yv Tryz.prog 66 5 6 32 := tqD
instance : ZO Tryz.prog 66 (([(0, 1), (1, 1), (2, 1), (3, 1), (4, 2), (6, 1)] : List (Nat × Nat))[·]?) := ZK (by kernel_rfl)
instance : TyA Tryz.prog 67 7 := tqA
instance : Zs Tryz.prog 67 false := tqI
instance : ZJ Tryz.prog 67 7 := tqN
instance : Zr Tryz.prog 67 88 := tqB
instance : Zt Tryz.prog 67 (.agg ⟨[.int .u64 0, .int .u64 0, .int .u64 0, .int .u64 0, .int .i64 0, .slice none 0 0, .slice none 0 0]⟩) := tqO
instance : ZT Tryz.prog 67 := ⟨by kernel_rfl⟩
instance : XL Tryz.prog 67 [(0, 28), (1, 28), (2, 28), (3, 28), (4, 26), (6, 32)] := Xc (by kernel_rfl)
instance : Yv Tryz.prog 67 0 0 28 := tqD
instance : Yv Tryz.prog 67 1 1 28 := tqD
instance : Yv Tryz.prog 67 2 2 28 := tqD
instance : Yv Tryz.prog 67 3 3 28 := tqD
instance : Yv Tryz.prog 67 4 4 26 := tqD
instance : Yv Tryz.prog 67 5 6 32 := tqD
instance : ZO Tryz.prog 67 (([(0, 1), (1, 1), (2, 1), (3, 1), (4, 2), (6, 1)] : List (Nat × Nat))[·]?) := ZK (by kernel_rfl)
instance : TyS Tryz.prog 74 := tqS
instance : Zs Tryz.prog 74 false := tqI
instance : ZJ Tryz.prog 74 1 := tqN
instance : Zr Tryz.prog 74 24 := tqB
instance : Zt Tryz.prog 74 (.slice none 0 0) := tqO
instance : ZV Tryz.prog 74 34 := ⟨by kernel_rfl⟩
instance : TyS Tryz.prog 88 := tqS
instance : Zs Tryz.prog 88 false := tqI
instance : YB Tryz.prog 88 := tqF
instance : ZJ Tryz.prog 88 1 := tqN
instance : Zr Tryz.prog 88 8 := tqB
instance : Zt Tryz.prog 88 (.nilFunc) := tqO
instance : TyS Tryz.prog 89 := tqS
instance : Zs Tryz.prog 89 false := tqI
instance : ZJ Tryz.prog 89 1 := tqN
instance : Zr Tryz.prog 89 8 := tqB
instance : Zt Tryz.prog 89 (.int .u64 0) := tqO
instance : Xa Tryz.prog 89 .u64 := ⟨by kernel_rfl⟩
instance : TyA Tryz.prog 91 2 := tqA
instance : Zs Tryz.prog 91 false := tqI
instance : ZJ Tryz.prog 91 2 := tqN
instance : Zr Tryz.prog 91 16 := tqB
instance : Zt Tryz.prog 91 (.agg ⟨[.int .i64 0, .int .u64 0]⟩) := tqO
instance : ZT Tryz.prog 91 := ⟨by kernel_rfl⟩
instance : Yv Tryz.prog 91 0 0 3 := tqD
instance : Yv Tryz.prog 91 1 1 28 := tqD
instance : ZO Tryz.prog 91 (([(0, 1), (1, 1)] : List (Nat × Nat))[·]?) := ZK (by kernel_rfl)
instance : TyA Tryz.prog 92 2 := tqA
instance : Zs Tryz.prog 92 false := tqI
instance : ZJ Tryz.prog 92 2 := tqN
instance : Zr Tryz.prog 92 16 := tqB
instance : Zt Tryz.prog 92 (.agg ⟨[.int .i64 0, .int .u64 0]⟩) := tqO
instance : ZT Tryz.prog 92 := ⟨by kernel_rfl⟩
instance : XL Tryz.prog 92 [(0, 3), (1, 28)] := Xc (by kernel_rfl)
instance : Yv Tryz.prog 92 0 0 3 := tqD
instance : Yv Tryz.prog 92 1 1 28 := tqD
instance : ZO Tryz.prog 92 (([(0, 1), (1, 1)] : List (Nat × Nat))[·]?) := ZK (by kernel_rfl)
instance : TyS Tryz.prog 95 := tqS
instance : Zs Tryz.prog 95 false := tqI
instance : ZJ Tryz.prog 95 1 := tqN
instance : Zr Tryz.prog 95 24 := tqB
instance : Zt Tryz.prog 95 (.slice none 0 0) := tqO
instance : ZV Tryz.prog 95 58 := ⟨by kernel_rfl⟩
instance : TyS Tryz.prog 96 := tqS
instance : Zs Tryz.prog 96 false := tqI
instance : ZJ Tryz.prog 96 1 := tqN
instance : Zr Tryz.prog 96 24 := tqB
instance : Zt Tryz.prog 96 (.slice none 0 0) := tqO
instance : ZV Tryz.prog 96 230 := ⟨by kernel_rfl⟩
instance : TyA Tryz.prog 97 3 := tqA
instance : Zs Tryz.prog 97 false := tqI
instance : ZJ Tryz.prog 97 3 := tqN
instance : Zr Tryz.prog 97 56 := tqB
instance : Zt Tryz.prog 97 (.agg ⟨[.int .i64 0, .slice none 0 0, .slice none 0 0]⟩) := tqO
instance : ZT Tryz.prog 97 := ⟨by kernel_rfl⟩
instance : Yv Tryz.prog 97 0 0 3 := tqD
instance : Yv Tryz.prog 97 1 1 95 := tqD
instance : Yv Tryz.prog 97 2 2 96 := tqD
instance : ZO Tryz.prog 97 (([(0, 1), (1, 1), (2, 1)] : List (Nat × Nat))[·]?) := ZK (by kernel_rfl)
instance : TyA Tryz.prog 98 3 := tqA
instance : Zs Tryz.prog 98 false := tqI
instance : ZJ Tryz.prog 98 3 := tqN
instance : Zr Tryz.prog 98 56 := tqB
instance : Zt Tryz.prog 98 (.agg ⟨[.int .i64 0, .slice none 0 0, .slice none 0 0]⟩) := tqO
instance : ZT Tryz.prog 98 := ⟨by kernel_rfl⟩
instance : XL Tryz.prog 98 [(0, 3), (1, 95), (2, 96)] := Xc (by kernel_rfl)
instance : Yv Tryz.prog 98 0 0 3 := tqD
instance : Yv Tryz.prog 98 1 1 95 := tqD
instance : Yv Tryz.prog 98 2 2 96 := tqD
instance : ZO Tryz.prog 98 (([(0, 1), (1, 1), (2, 1)] : List (Nat × Nat))[·]?) := ZK (by kernel_rfl)
instance : TyA Tryz.prog 99 7 := tqA
instance : Zs Tryz.prog 99 false := tqI
instance : ZJ Tryz.prog 99 7 := tqN
instance : Zr Tryz.prog 99 120 := tqB
instance : Zt Tryz.prog 99 (.agg ⟨[.int .i64 0, .int .i64 0, .slice none 0 0, .slice none 0 0, .int .i64 0, .slice none 0 0, .slice none 0 0]⟩) := tqO
instance : ZT Tryz.prog 99 := ⟨by kernel_rfl⟩
instance : Yv Tryz.prog 99 0 0 3 := tqD
instance : Yv Tryz.prog 99 1 1 98 := tqD
instance : Yv Tryz.prog 99 2 4 98 := tqD
instance : ZO Tryz.prog 99 (([(0, 1), (1, 3), (4, 3)] : List (Nat × Nat))[·]?) := ZK (by kernel_rfl)
instance : TyA Tryz.prog 100 7 := tqA
instance : Zs Tryz.prog 100 false := tqI
instance : ZJ Tryz.prog 100 7 := tqN
instance : Zr Tryz.prog 100 120 := tqB
instance : Zt Tryz.prog 100 (.agg ⟨[.int .i64 0, .int .i64 0, .slice none 0 0, .slice none 0 0, .int .i64 0, .slice none 0 0, .slice none 0 0]⟩) := tqO
instance : ZT Tryz.prog 100 := ⟨by kernel_rfl⟩
instance : XL Tryz.prog 100 [(0, 3), (1, 98), (4, 98)] := Xc (by kernel_rfl)
instance : Yv Tryz.prog 100 0 0 3 := tqD
instance : Yv Tryz.prog 100 1 1 98 := tqD
instance : Yv Tryz.prog 100 2 4 98 := tqD
instance : ZO Tryz.prog 100 (([(0, 1), (1, 3), (4, 3)] : List (Nat × Nat))[·]?) := ZK (by kernel_rfl)
instance : TyS Tryz.prog 103 := tqS
instance : Zs Tryz.prog 103 false := tqI
instance : ZJ Tryz.prog 103 1 := tqN
instance : Zr Tryz.prog 103 8 := tqB
instance : Zt Tryz.prog 103 (.pointer none) := tqO
instance : TyPtr Tryz.prog 103 45 := ⟨by kernel_rfl⟩
instance : TyA Tryz.prog 107 2 := tqA
instance : Zs Tryz.prog 107 false := tqI
instance : ZJ Tryz.prog 107 2 := tqN
instance : Zr Tryz.prog 107 16 := tqB
instance : Zt Tryz.prog 107 (.agg ⟨[.int .u64 0, .int .i64 0]⟩) := tqO
instance : ZT Tryz.prog 107 := ⟨by kernel_rfl⟩
instance : Yv Tryz.prog 107 0 0 28 := tqD
instance : Yv Tryz.prog 107 1 1 3 := tqD
instance : ZO Tryz.prog 107 (([(0, 1), (1, 1)] : List (Nat × Nat))[·]?) := ZK (by kernel_rfl)
instance : TyA Tryz.prog 108 2 := tqA
instance : Zs Tryz.prog 108 false := tqI
instance : ZJ Tryz.prog 108 2 := tqN
instance : Zr Tryz.prog 108 16 := tqB
instance : Zt Tryz.prog 108 (.agg ⟨[.int .u64 0, .int .i64 0]⟩) := tqO
instance : ZT Tryz.prog 108 := ⟨by kernel_rfl⟩
instance : XL Tryz.prog 108 [(0, 28), (1, 3)] := Xc (by kernel_rfl)
instance : Yv Tryz.prog 108 0 0 28 := tqD
instance : Yv Tryz.prog 108 1 1 3 := tqD
instance : ZO Tryz.prog 108 (([(0, 1), (1, 1)] : List (Nat × Nat))[·]?) := ZK (by kernel_rfl)
instance : TyS Tryz.prog 110 := tqS
instance : Zs Tryz.prog 110 false := tqI
instance : YB Tryz.prog 110 := tqF
instance : ZJ Tryz.prog 110 1 := tqN
instance : Zr Tryz.prog 110 8 := tqB
instance : Zt Tryz.prog 110 (.nilFunc) := tqO
instance : TyS Tryz.prog 112 := tqS
instance : Zs Tryz.prog 112 false := tqI
instance : ZJ Tryz.prog 112 1 := tqN
instance : Zr Tryz.prog 112 8 := tqB
instance : Zt Tryz.prog 112 (.pointer none) := tqO
instance : TyPtr Tryz.prog 112 149 := ⟨by kernel_rfl⟩
instance : TyS Tryz.prog 114 := tqS
instance : Zs Tryz.prog 114 false := tqI
instance : YB Tryz.prog 114 := tqF
instance : ZJ Tryz.prog 114 1 := tqN
instance : Zr Tryz.prog 114 8 := tqB
instance : Zt Tryz.prog 114 (.nilFunc) := tqO
instance : TyS Tryz.prog 118 := tqS
instance : Zs Tryz.prog 118 false := tqI
instance : ZJ Tryz.prog 118 1 := tqN
instance : Zr Tryz.prog 118 24 := tqB
instance : Zt Tryz.prog 118 (.slice none 0 0) := tqO
instance : ZV Tryz.prog 118 3 := ⟨by kernel_rfl⟩
instance : TyS Tryz.prog 120 := tqS
instance : Zs Tryz.prog 120 false := tqI
instance : YB Tryz.prog 120 := tqF
instance : ZJ Tryz.prog 120 1 := tqN
instance : Zr Tryz.prog 120 8 := tqB
instance : Zt Tryz.prog 120 (.nilFunc) := tqO
instance : TyA Tryz.prog 124 6 := tqA
instance : Zs Tryz.prog 124 false := tqI
instance : ZJ Tryz.prog 124 6 := tqN
instance : Zr Tryz.prog 124 112 := tqB
instance : Zt Tryz.prog 124 (.agg ⟨[.int .i64 0, .slice none 0 0, .slice none 0 0, .int .i64 0, .slice none 0 0, .slice none 0 0]⟩) := tqO
instance : ZT Tryz.prog 124 := ⟨by kernel_rfl⟩
instance : TyArr Tryz.prog 124 2 98 := ⟨by kernel_rfl⟩
instance : ZO Tryz.prog 124 (fun i => some (i * 3, 3)) := mkTyPlacesA (n := 2) (e := 98) (by kernel_rfl) (by kernel_rfl)
instance : TyS Tryz.prog 125 := tqS
instance : Zs Tryz.prog 125 false := tqI
instance : ZJ Tryz.prog 125 1 := tqN
instance : Zr Tryz.prog 125 8 := tqB
instance : Zt Tryz.prog 125 (.pointer none) := tqO
instance : TyPtr Tryz.prog 125 127 := ⟨by kernel_rfl⟩
instance : TyA Tryz.prog 126 17 := tqA
instance : Zs Tryz.prog 126 false := tqI
instance : ZJ Tryz.prog 126 17 := tqN
instance : Zr Tryz.prog 126 232 := tqB
instance : Zt Tryz.prog 126 (.agg ⟨[.int .u64 0, .int .u64 0, .int .u64 0, .int .u64 0, .int .i64 0, .slice none 0 0, .slice none 0 0, .int .i64 0, .int .u64 0, .int .i64 0, .int .u64 0, .int .u64 0, .slice none 0 0, .slice none 0 0, .int .i64 0, .slice none 0 0, .slice none 0 0]⟩) := tqO
instance : ZT Tryz.prog 126 := ⟨by kernel_rfl⟩
instance : Yv Tryz.prog 126 0 0 67 := tqD
instance : Yv Tryz.prog 126 1 7 34 := tqD
instance : ZO Tryz.prog 126 (([(0, 7), (7, 10)] : List (Nat × Nat))[·]?) := ZK (by kernel_rfl)
instance : TyA Tryz.prog 127 17 := tqA
instance : Zs Tryz.prog 127 false := tqI
instance : ZJ Tryz.prog 127 17 := tqN
instance : Zr Tryz.prog 127 232 := tqB
instance : Zt Tryz.prog 127 (.agg ⟨[.int .u64 0, .int .u64 0, .int .u64 0, .int .u64 0, .int .i64 0, .slice none 0 0, .slice none 0 0, .int .i64 0, .int .u64 0, .int .i64 0, .int .u64 0, .int .u64 0, .slice none 0 0, .slice none 0 0, .int .i64 0, .slice none 0 0, .slice none 0 0]⟩) := tqO
instance : ZT Tryz.prog 127 := ⟨by kernel_rfl⟩
instance : XL Tryz.prog 127 [(0, 67), (7, 34)] := Xc (by kernel_rfl)
instance : Yv Tryz.prog 127 0 0 67 := tqD
instance : Yv Tryz.prog 127 1 7 34 := tqD
instance : ZO Tryz.prog 127 (([(0, 7), (7, 10)] : List (Nat × Nat))[·]?) := ZK (by kernel_rfl)
instance : TyA Tryz.prog 128 3 := tqA
instance : Zs Tryz.prog 128 false := tqI
instance : ZJ Tryz.prog 128 3 := tqN
instance : Zr Tryz.prog 128 24 := tqB
instance : Zt Tryz.prog 128 (.agg ⟨[.nilFunc, .nilFunc, .nilFunc]⟩) := tqO
instance : ZT Tryz.prog 128 := ⟨by kernel_rfl⟩
instance : TyArr Tryz.prog 128 3 23 := ⟨by kernel_rfl⟩
instance : ZO Tryz.prog 128 (fun i => some (i * 1, 1)) := mkTyPlacesA (n := 3) (e := 23) (by kernel_rfl) (by kernel_rfl)
instance : TyA Tryz.prog 131 4 := tqA
instance : Zs Tryz.prog 131 false := tqI
instance : ZJ Tryz.prog 131 4 := tqN
instance : Zr Tryz.prog 131 32 := tqB
instance : Zt Tryz.prog 131 (.agg ⟨[.int .u64 0, .int .u64 0, .int .u64 0, .int .u64 0]⟩) := tqO
instance : ZT Tryz.prog 131 := ⟨by kernel_rfl⟩
instance : TyArr Tryz.prog 131 4 28 := ⟨by kernel_rfl⟩
instance : ZO Tryz.prog 131 (fun i => some (i * 1, 1)) := mkTyPlacesA (n := 4) (e := 28) (by kernel_rfl) (by kernel_rfl)
instance : TyS Tryz.prog 144 := tqS
instance : Zs Tryz.prog 144 false := tqI
instance : YB Tryz.prog 144 := tqF
instance : ZJ Tryz.prog 144 1 := tqN
instance : Zr Tryz.prog 144 8 := tqB
instance : Zt Tryz.prog 144 (.nilFunc) := tqO
instance : TyA Tryz.prog 148 13 := tqA
instance : Zs Tryz.prog 148 false := tqI
instance : ZJ Tryz.prog 148 13 := tqN
instance : Zr Tryz.prog 148 184 := tqB
instance : Zt Tryz.prog 148 (.agg ⟨[.int .i64 0, .slice none 0 0, .int .i64 0, .int .u64 0, .int .i64 0, .int .u64 0, .int .u64 0, .slice none 0 0, .slice none 0 0, .int .i64 0, .slice none 0 0, .slice none 0 0, .pointer none]⟩) := tqO
instance : ZT Tryz.prog 148 := ⟨by kernel_rfl⟩
instance : Yv Tryz.prog 148 0 0 26 := tqD
instance : Yv Tryz.prog 148 1 2 34 := tqD
instance : Yv Tryz.prog 148 2 12 103 := tqD
instance : ZO Tryz.prog 148 (([(0, 2), (2, 10), (12, 1)] : List (Nat × Nat))[·]?) := ZK (by kernel_rfl)
instance : TyA Tryz.prog 149 13 := tqA
instance : Zs Tryz.prog 149 false := tqI
instance : ZJ Tryz.prog 149 13 := tqN
instance : Zr Tryz.prog 149 184 := tqB
instance : Zt Tryz.prog 149 (.agg ⟨[.int .i64 0, .slice none 0 0, .int .i64 0, .int .u64 0, .int .i64 0, .int .u64 0, .int .u64 0, .slice none 0 0, .slice none 0 0, .int .i64 0, .slice none 0 0, .slice none 0 0, .pointer none]⟩) := tqO
instance : ZT Tryz.prog 149 := ⟨by kernel_rfl⟩
instance : XL Tryz.prog 149 [(0, 26), (2, 34), (12, 103)] := Xc (by kernel_rfl)
instance : Yv Tryz.prog 149 0 0 26 := tqD
instance : Yv Tryz.prog 149 1 2 34 := tqD
instance : Yv Tryz.prog 149 2 12 103 := tqD
instance : ZO Tryz.prog 149 (([(0, 2), (2, 10), (12, 1)] : List (Nat × Nat))[·]?) := ZK (by kernel_rfl)
instance : TyS Tryz.prog 153 := tqS
instance : Zs Tryz.prog 153 false := tqI
instance : ZJ Tryz.prog 153 1 := tqN
instance : Zr Tryz.prog 153 8 := tqB
instance : Zt Tryz.prog 153 (.pointer none) := tqO
instance : TyPtr Tryz.prog 153 155 := ⟨by kernel_rfl⟩
instance : TyA Tryz.prog 154 10 := tqA
instance : Zs Tryz.prog 154 false := tqI
instance : ZJ Tryz.prog 154 10 := tqN
instance : Zr Tryz.prog 154 144 := tqB
instance : Zt Tryz.prog 154 (.agg ⟨[.int .i64 0, .int .u64 0, .int .i64 0, .int .u64 0, .int .u64 0, .slice none 0 0, .slice none 0 0, .int .i64 0, .slice none 0 0, .slice none 0 0]⟩) := tqO
instance : ZT Tryz.prog 154 := ⟨by kernel_rfl⟩
instance : Yv Tryz.prog 154 0 0 34 := tqD
instance : ZO Tryz.prog 154 (([(0, 10)] : List (Nat × Nat))[·]?) := ZK (by kernel_rfl)
instance : TyA Tryz.prog 155 10 := tqA
instance : Zs Tryz.prog 155 false := tqI
instance : ZJ Tryz.prog 155 10 := tqN
instance : Zr Tryz.prog 155 144 := tqB
instance : Zt Tryz.prog 155 (.agg ⟨[.int .i64 0, .int .u64 0, .int .i64 0, .int .u64 0, .int .u64 0, .slice none 0 0, .slice none 0 0, .int .i64 0, .slice none 0 0, .slice none 0 0]⟩) := tqO
instance : ZT Tryz.prog 155 := ⟨by kernel_rfl⟩
instance : XL Tryz.prog 155 [(0, 34)] := Xc (by kernel_rfl)
instance : Yv Tryz.prog 155 0 0 34 := tqD
instance : ZO Tryz.prog 155 (([(0, 10)] : List (Nat × Nat))[·]?) := ZK (by kernel_rfl)
instance : TyS Tryz.prog 156 := tqS
instance : Zs Tryz.prog 156 false := tqI
instance : ZJ Tryz.prog 156 1 := tqN
instance : Zr Tryz.prog 156 8 := tqB
instance : Zt Tryz.prog 156 (.map none) := tqO
instance : TyMap Tryz.prog 156 3 23 := ⟨by kernel_rfl⟩
instance : TyS Tryz.prog 157 := tqS
instance : Zs Tryz.prog 157 false := tqI
instance : YB Tryz.prog 157 := tqF
instance : ZJ Tryz.prog 157 1 := tqN
instance : Zr Tryz.prog 157 8 := tqB
instance : Zt Tryz.prog 157 (.nilFunc) := tqO
instance : TyS Tryz.prog 158 := tqS
instance : Zs Tryz.prog 158 false := tqI
instance : ZJ Tryz.prog 158 1 := tqN
instance : Zr Tryz.prog 158 8 := tqB
instance : Zt Tryz.prog 158 (.map none) := tqO
instance : TyMap Tryz.prog 158 3 157 := ⟨by kernel_rfl⟩
instance : TyS Tryz.prog 161 := tqS
instance : Zs Tryz.prog 161 false := tqI
instance : YB Tryz.prog 161 := tqF
instance : ZJ Tryz.prog 161 1 := tqN
instance : Zr Tryz.prog 161 8 := tqB
instance : Zt Tryz.prog 161 (.nilFunc) := tqO
instance : TyS Tryz.prog 162 := tqS
instance : Zs Tryz.prog 162 false := tqI
instance : YB Tryz.prog 162 := tqF
instance : ZJ Tryz.prog 162 1 := tqN
instance : Zr Tryz.prog 162 8 := tqB
instance : Zt Tryz.prog 162 (.nilFunc) := tqO
instance : TyS Tryz.prog 164 := tqS
instance : Zs Tryz.prog 164 false := tqI
instance : YB Tryz.prog 164 := tqF
instance : ZJ Tryz.prog 164 1 := tqN
instance : Zr Tryz.prog 164 8 := tqB
instance : Zt Tryz.prog 164 (.nilFunc) := tqO
instance : TyA Tryz.prog 168 5 := tqA
instance : Zs Tryz.prog 168 false := tqI
instance : ZJ Tryz.prog 168 5 := tqN
instance : Zr Tryz.prog 168 40 := tqB
instance : Zt Tryz.prog 168 (.agg ⟨[.int .i64 0, .int .u64 0, .int .u64 0, .int .u64 0, .int .i64 0]⟩) := tqO
instance : ZT Tryz.prog 168 := ⟨by kernel_rfl⟩
instance : Yv Tryz.prog 168 0 0 3 := tqD
instance : Yv Tryz.prog 168 1 1 28 := tqD
instance : Yv Tryz.prog 168 2 2 28 := tqD
instance : Yv Tryz.prog 168 3 3 28 := tqD
instance : Yv Tryz.prog 168 4 4 3 := tqD
instance : ZO Tryz.prog 168 (([(0, 1), (1, 1), (2, 1), (3, 1), (4, 1)] : List (Nat × Nat))[·]?) := ZK (by kernel_rfl)
instance : TyA Tryz.prog 169 5 := tqA
instance : Zs Tryz.prog 169 false := tqI
instance : ZJ Tryz.prog 169 5 := tqN
instance : Zr Tryz.prog 169 40 := tqB
instance : Zt Tryz.prog 169 (.agg ⟨[.int .i64 0, .int .u64 0, .int .u64 0, .int .u64 0, .int .i64 0]⟩) := tqO
instance : ZT Tryz.prog 169 := ⟨by kernel_rfl⟩
instance : XL Tryz.prog 169 [(0, 3), (1, 28), (2, 28), (3, 28), (4, 3)] := Xc (by kernel_rfl)
instance : Yv Tryz.prog 169 0 0 3 := tqD
instance : Yv Tryz.prog 169 1 1 28 := tqD
instance : Yv Tryz.prog 169 2 2 28 := tqD
instance : Yv Tryz.prog 169 3 3 28 := tqD
instance : Yv Tryz.prog 169 4 4 3 := tqD
instance : ZO Tryz.prog 169 (([(0, 1), (1, 1), (2, 1), (3, 1), (4, 1)] : List (Nat × Nat))[·]?) := ZK (by kernel_rfl)
instance : TyS Tryz.prog 175 := tqS
instance : Zs Tryz.prog 175 false := tqI
instance : YB Tryz.prog 175 := tqF
instance : ZJ Tryz.prog 175 1 := tqN
instance : Zr Tryz.prog 175 8 := tqB
instance : Zt Tryz.prog 175 (.nilFunc) := tqO
instance : TyS Tryz.prog 176 := tqS
instance : Zs Tryz.prog 176 false := tqI
instance : YB Tryz.prog 176 := tqF
instance : ZJ Tryz.prog 176 1 := tqN
instance : Zr Tryz.prog 176 8 := tqB
instance : Zt Tryz.prog 176 (.nilFunc) := tqO
instance : TyS Tryz.prog 177 := tqS
instance : Zs Tryz.prog 177 false := tqI
instance : ZJ Tryz.prog 177 1 := tqN
instance : Zr Tryz.prog 177 8 := tqB
instance : Zt Tryz.prog 177 (.pointer none) := tqO
instance : TyPtr Tryz.prog 177 32 := ⟨by kernel_rfl⟩
instance : TyS Tryz.prog 180 := tqS
instance : Zs Tryz.prog 180 false := tqI
instance : YB Tryz.prog 180 := tqF
instance : ZJ Tryz.prog 180 1 := tqN
instance : Zr Tryz.prog 180 8 := tqB
instance : Zt Tryz.prog 180 (.nilFunc) := tqO
instance : TyS Tryz.prog 182 := tqS
instance : Zs Tryz.prog 182 false := tqI
instance : YB Tryz.prog 182 := tqF
instance : ZJ Tryz.prog 182 1 := tqN
instance : Zr Tryz.prog 182 8 := tqB
instance : Zt Tryz.prog 182 (.nilFunc) := tqO
instance : TyS Tryz.prog 185 := tqS
instance : Zs Tryz.prog 185 false := tqI
instance : YB Tryz.prog 185 := tqF
instance : ZJ Tryz.prog 185 1 := tqN
instance : Zr Tryz.prog 185 8 := tqB
instance : Zt Tryz.prog 185 (.nilFunc) := tqO
instance : TyS Tryz.prog 186 := tqS
instance : Zs Tryz.prog 186 false := tqI
instance : YB Tryz.prog 186 := tqF
instance : ZJ Tryz.prog 186 1 := tqN
instance : Zr Tryz.prog 186 8 := tqB
instance : Zt Tryz.prog 186 (.nilFunc) := tqO
instance : TyS Tryz.prog 188 := tqS
instance : Zs Tryz.prog 188 false := tqI
instance : YB Tryz.prog 188 := tqF
instance : ZJ Tryz.prog 188 1 := tqN
instance : Zr Tryz.prog 188 8 := tqB
instance : Zt Tryz.prog 188 (.nilFunc) := tqO
instance : TyS Tryz.prog 208 := tqS
instance : Zs Tryz.prog 208 false := tqI
instance : YB Tryz.prog 208 := tqF
instance : ZJ Tryz.prog 208 1 := tqN
instance : Zr Tryz.prog 208 8 := tqB
instance : Zt Tryz.prog 208 (.nilFunc) := tqO
instance : TyS Tryz.prog 211 := tqS
instance : Zs Tryz.prog 211 false := tqI
instance : YB Tryz.prog 211 := tqF
instance : ZJ Tryz.prog 211 1 := tqN
instance : Zr Tryz.prog 211 8 := tqB
instance : Zt Tryz.prog 211 (.nilFunc) := tqO
instance : TyS Tryz.prog 213 := tqS
instance : Zs Tryz.prog 213 false := tqI
instance : YB Tryz.prog 213 := tqF
instance : ZJ Tryz.prog 213 1 := tqN
instance : Zr Tryz.prog 213 8 := tqB
instance : Zt Tryz.prog 213 (.nilFunc) := tqO
instance : TyS Tryz.prog 217 := tqS
instance : Zs Tryz.prog 217 false := tqI
instance : ZJ Tryz.prog 217 1 := tqN
instance : Zr Tryz.prog 217 24 := tqB
instance : Zt Tryz.prog 217 (.slice none 0 0) := tqO
instance : ZV Tryz.prog 217 5 := ⟨by kernel_rfl⟩
instance : TyS Tryz.prog 219 := tqS
instance : Zs Tryz.prog 219 false := tqI
instance : ZJ Tryz.prog 219 1 := tqN
instance : Zr Tryz.prog 219 24 := tqB
instance : Zt Tryz.prog 219 (.slice none 0 0) := tqO
instance : ZV Tryz.prog 219 4 := ⟨by kernel_rfl⟩
instance : TyS Tryz.prog 222 := tqS
instance : Zs Tryz.prog 222 false := tqI
instance : YB Tryz.prog 222 := tqF
instance : ZJ Tryz.prog 222 1 := tqN
instance : Zr Tryz.prog 222 8 := tqB
instance : Zt Tryz.prog 222 (.nilFunc) := tqO
instance : TyA Tryz.prog 229 3 := tqA
instance : Zs Tryz.prog 229 false := tqI
instance : ZJ Tryz.prog 229 3 := tqN
instance : Zr Tryz.prog 229 24 := tqB
instance : Zt Tryz.prog 229 (.agg ⟨[.int .i64 0, .int .u16 0, .int .i64 0]⟩) := tqO
instance : ZT Tryz.prog 229 := ⟨by kernel_rfl⟩
instance : Yv Tryz.prog 229 0 0 56 := tqD
instance : Yv Tryz.prog 229 1 2 3 := tqD
instance : ZO Tryz.prog 229 (([(0, 2), (2, 1)] : List (Nat × Nat))[·]?) := ZK (by kernel_rfl)
instance : TyA Tryz.prog 230 3 := tqA
instance : Zs Tryz.prog 230 false := tqI
instance : ZJ Tryz.prog 230 3 := tqN
instance : Zr Tryz.prog 230 24 := tqB
instance : Zt Tryz.prog 230 (.agg ⟨[.int .i64 0, .int .u16 0, .int .i64 0]⟩) := tqO
instance : ZT Tryz.prog 230 := ⟨by kernel_rfl⟩
instance : XL Tryz.prog 230 [(0, 56), (2, 3)] := Xc (by kernel_rfl)
instance : Yv Tryz.prog 230 0 0 56 := tqD
instance : Yv Tryz.prog 230 1 2 3 := tqD
instance : ZO Tryz.prog 230 (([(0, 2), (2, 1)] : List (Nat × Nat))[·]?) := ZK (by kernel_rfl)
instance : TyS Tryz.prog 231 := tqS
instance : Zs Tryz.prog 231 false := tqI
instance : ZJ Tryz.prog 231 1 := tqN
instance : Zr Tryz.prog 231 8 := tqB
instance : Zt Tryz.prog 231 (.pointer none) := tqO
instance : TyPtr Tryz.prog 231 233 := ⟨by kernel_rfl⟩
instance : TyA Tryz.prog 232 11 := tqA
instance : Zs Tryz.prog 232 false := tqI
instance : ZJ Tryz.prog 232 11 := tqN
instance : Zr Tryz.prog 232 168 := tqB
instance : Zt Tryz.prog 232 (.agg ⟨[.int .i64 0, .int .u64 0, .int .i64 0, .int .u64 0, .int .u64 0, .slice none 0 0, .slice none 0 0, .int .i64 0, .slice none 0 0, .slice none 0 0, .slice none 0 0]⟩) := tqO
instance : ZT Tryz.prog 232 := ⟨by kernel_rfl⟩
instance : Yv Tryz.prog 232 0 0 34 := tqD
instance : Yv Tryz.prog 232 1 10 217 := tqD
instance : ZO Tryz.prog 232 (([(0, 10), (10, 1)] : List (Nat × Nat))[·]?) := ZK (by kernel_rfl)
instance : TyA Tryz.prog 233 11 := tqA
instance : Zs Tryz.prog 233 false := tqI
instance : ZJ Tryz.prog 233 11 := tqN
instance : Zr Tryz.prog 233 168 := tqB
instance : Zt Tryz.prog 233 (.agg ⟨[.int .i64 0, .int .u64 0, .int .i64 0, .int .u64 0, .int .u64 0, .slice none 0 0, .slice none 0 0, .int .i64 0, .slice none 0 0, .slice none 0 0, .slice none 0 0]⟩) := tqO
instance : ZT Tryz.prog 233 := ⟨by kernel_rfl⟩
instance : XL Tryz.prog 233 [(0, 34), (10, 217)] := Xc (by kernel_rfl)
instance : Yv Tryz.prog 233 0 0 34 := tqD
instance : Yv Tryz.prog 233 1 10 217 := tqD
instance : ZO Tryz.prog 233 (([(0, 10), (10, 1)] : List (Nat × Nat))[·]?) := ZK (by kernel_rfl)
instance : TyS Tryz.prog 237 := tqS
instance : Zs Tryz.prog 237 false := tqI
instance : ZJ Tryz.prog 237 1 := tqN
instance : Zr Tryz.prog 237 8 := tqB
instance : Zt Tryz.prog 237 (.map none) := tqO
instance : TyMap Tryz.prog 237 3 1 := ⟨by kernel_rfl⟩
instance : TyS Tryz.prog 244 := tqS
instance : Zs Tryz.prog 244 false := tqI
instance : YB Tryz.prog 244 := tqF
instance : ZJ Tryz.prog 244 1 := tqN
instance : Zr Tryz.prog 244 8 := tqB
instance : Zt Tryz.prog 244 (.nilFunc) := tqO
instance : TyS Tryz.prog 245 := tqS
instance : Zs Tryz.prog 245 false := tqI
instance : YB Tryz.prog 245 := tqF
instance : ZJ Tryz.prog 245 1 := tqN
instance : Zr Tryz.prog 245 8 := tqB
instance : Zt Tryz.prog 245 (.nilFunc) := tqO
instance : TyS Tryz.prog 246 := tqS
instance : Zs Tryz.prog 246 false := tqI
instance : ZJ Tryz.prog 246 1 := tqN
instance : Zr Tryz.prog 246 8 := tqB
instance : Zt Tryz.prog 246 (.map none) := tqO
instance : TyMap Tryz.prog 246 3 4 := ⟨by kernel_rfl⟩
instance : TyS Tryz.prog 248 := tqS
instance : Zs Tryz.prog 248 false := tqI
instance : YB Tryz.prog 248 := tqF
instance : ZJ Tryz.prog 248 1 := tqN
instance : Zr Tryz.prog 248 8 := tqB
instance : Zt Tryz.prog 248 (.nilFunc) := tqO
instance : TyS Tryz.prog 249 := tqS
instance : Zs Tryz.prog 249 false := tqI
instance : YB Tryz.prog 249 := tqF
instance : ZJ Tryz.prog 249 1 := tqN
instance : Zr Tryz.prog 249 8 := tqB
instance : Zt Tryz.prog 249 (.nilFunc) := tqO
instance : TyS Tryz.prog 252 := tqS
instance : Zs Tryz.prog 252 false := tqI
instance : ZJ Tryz.prog 252 1 := tqN
instance : Zr Tryz.prog 252 4 := tqB
instance : Zt Tryz.prog 252 (.int .u32 0) := tqO
instance : Xa Tryz.prog 252 .u32 := ⟨by kernel_rfl⟩
instance : TyS Tryz.prog 278 := tqS
instance : Zs Tryz.prog 278 false := tqI
instance : YB Tryz.prog 278 := tqF
instance : ZJ Tryz.prog 278 1 := tqN
instance : Zr Tryz.prog 278 8 := tqB
instance : Zt Tryz.prog 278 (.nilFunc) := tqO
instance : TyS Tryz.prog 279 := tqS
instance : Zs Tryz.prog 279 false := tqI
instance : ZJ Tryz.prog 279 1 := tqN
instance : Zr Tryz.prog 279 8 := tqB
instance : Zt Tryz.prog 279 (.pointer none) := tqO
instance : TyPtr Tryz.prog 279 5 := ⟨by kernel_rfl⟩
instance : TyA Tryz.prog 282 11 := tqA
instance : Zs Tryz.prog 282 false := tqI
instance : ZJ Tryz.prog 282 11 := tqN
instance : Zr Tryz.prog 282 48 := tqB
instance : Zt Tryz.prog 282 (.agg ⟨[.int .u64 0, .int .u64 0, .int .u32 0, .int .u8 0, .int .u8 0, .int .u8 0, .int .u8 0, .nilFunc, .pointer none, .int .i32 0, .int .i32 0]⟩) := tqO
instance : ZT Tryz.prog 282 := ⟨by kernel_rfl⟩
instance : Yv Tryz.prog 282 0 0 12 := tqD
instance : Yv Tryz.prog 282 1 1 12 := tqD
instance : Yv Tryz.prog 282 2 2 252 := tqD
instance : Yv Tryz.prog 282 3 3 276 := tqD
instance : Yv Tryz.prog 282 4 4 5 := tqD
instance : Yv Tryz.prog 282 5 5 5 := tqD
instance : Yv Tryz.prog 282 6 6 277 := tqD
instance : Yv Tryz.prog 282 7 7 278 := tqD
instance : Yv Tryz.prog 282 8 8 279 := tqD
instance : Yv Tryz.prog 282 9 9 280 := tqD
instance : Yv Tryz.prog 282 10 10 281 := tqD
instance : ZO Tryz.prog 282 (([(0, 1), (1, 1), (2, 1), (3, 1), (4, 1), (5, 1), (6, 1), (7, 1), (8, 1), (9, 1), (10, 1)] : List (Nat × Nat))[·]?) := ZK (by kernel_rfl)
instance : Ya Tryz.prog 4 := Yh
instance : Ya Tryz.prog 5 := Yh
instance : Ya Tryz.prog 6 := Yh
instance : Ya Tryz.prog 7 := Yh
instance : Ya Tryz.prog 10 := Yh
instance : Ya Tryz.prog 16 := Yh
instance : Ya Tryz.prog 18 := Yh
instance : Ya Tryz.prog 19 := Yh
instance : Ya Tryz.prog 21 := Yh
instance : Ya Tryz.prog 22 := Yh
instance : Ya Tryz.prog 23 := Yh
instance : Ya Tryz.prog 24 := Yh
instance : Ya Tryz.prog 25 := Yh
instance : Ya Tryz.prog 26 := Yh
instance : Ya Tryz.prog 27 := Yh
instance : Ya Tryz.prog 28 := Yh
instance : Ya Tryz.prog 29 := Yh
instance : Ya Tryz.prog 30 := Yh
instance : Ya Tryz.prog 31 := Yh
instance : Ya Tryz.prog 32 := Yh
instance : Ya Tryz.prog 33 := Yh
instance : Ya Tryz.prog 34 := Yh
instance : Ya Tryz.prog 35 := Yh
instance : Ya Tryz.prog 36 := Yh
instance : Ya Tryz.prog 46 := Yh
instance : Ya Tryz.prog 47 := Yh
instance : Ya Tryz.prog 48 := Yh
instance : Ya Tryz.prog 49 := Yh
instance : Ya Tryz.prog 50 := Yh
instance : Ya Tryz.prog 51 := Yh
instance : Ya Tryz.prog 52 := Yh
instance : Ya Tryz.prog 53 := Yh
instance : Ya Tryz.prog 54 := Yh
instance : Ya Tryz.prog 55 := Yh
instance : Ya Tryz.prog 57 := Yh
instance : Ya Tryz.prog 58 := Yh
instance : Ya Tryz.prog 59 := Yh
instance : Ya Tryz.prog 60 := Yh
instance : Ya Tryz.prog 61 := Yh
instance : Ya Tryz.prog 62 := Yh
instance : Ya Tryz.prog 63 := Yh
instance : Ya Tryz.prog 64 := Yh
instance : Ya Tryz.prog 65 := Yh
instance : Ya Tryz.prog 66 := Yh
instance : Ya Tryz.prog 67 := Yh
instance : Ya Tryz.prog 68 := Yh
instance : Ya Tryz.prog 69 := Yh
instance : Ya Tryz.prog 70 := Yh
instance : Ya Tryz.prog 71 := Yh
instance : Ya Tryz.prog 72 := Yh
instance : Ya Tryz.prog 82 := Yh
instance : Ya Tryz.prog 83 := Yh
instance : Ya Tryz.prog 84 := Yh
instance : Ya Tryz.prog 85 := Yh
instance : Ya Tryz.prog 86 := Yh
instance : Ya Tryz.prog 87 := Yh
instance : Ya Tryz.prog 88 := Yh
instance : Ya Tryz.prog 89 := Yh
instance : Ya Tryz.prog 90 := Yh
instance : Ya Tryz.prog 91 := Yh
instance : Ya Tryz.prog 92 := Yh
instance : Ya Tryz.prog 93 := Yh
instance : Ya Tryz.prog 94 := Yh
instance : Ya Tryz.prog 95 := Yh
instance : Ya Tryz.prog 96 := Yh
instance : Ya Tryz.prog 97 := Yh
instance : Ya Tryz.prog 98 := Yh
instance : Ya Tryz.prog 99 := Yh
instance : Ya Tryz.prog 100 := Yh
instance : Ya Tryz.prog 101 := Yh
instance : Ya Tryz.prog 102 := Yh
instance : Ya Tryz.prog 103 := Yh
instance : Ya Tryz.prog 104 := Yh
instance : Ya Tryz.prog 105 := Yh
instance : Ya Tryz.prog 106 := Yh
instance : Ya Tryz.prog 107 := Yh
instance : Ya Tryz.prog 108 := Yh
instance : Ya Tryz.prog 109 := Yh
instance : Ya Tryz.prog 110 := Yh
instance : Ya Tryz.prog 111 := Yh
instance : Ya Tryz.prog 112 := Yh
instance : Ya Tryz.prog 113 := Yh
instance : Ya Tryz.prog 114 := Yh
instance : Ya Tryz.prog 115 := Yh
instance : Ya Tryz.prog 116 := Yh
instance : Ya Tryz.prog 117 := Yh
instance : Ya Tryz.prog 118 := Yh
instance : Ya Tryz.prog 119 := Yh
instance : Ya Tryz.prog 120 := Yh
instance : Ya Tryz.prog 121 := Yh
instance : Ya Tryz.prog 122 := Yh
instance : Ya Tryz.prog 123 := Yh
instance : Ya Tryz.prog 124 := Yh
instance : Ya Tryz.prog 125 := Yh
instance : Ya Tryz.prog 126 := Yh
instance : Ya Tryz.prog 127 := Yh
instance : Ya Tryz.prog 128 := Yh
instance : Ya Tryz.prog 129 := Yh
instance : Ya Tryz.prog 134 := Yh
instance : Ya Tryz.prog 135 := Yh
instance : Ya Tryz.prog 136 := Yh
instance : Ya Tryz.prog 137 := Yh
instance : Ya Tryz.prog 138 := Yh
instance : Ya Tryz.prog 139 := Yh
instance : Ya Tryz.prog 140 := Yh
instance : Ya Tryz.prog 141 := Yh
instance : Ya Tryz.prog 142 := Yh
instance : Ya Tryz.prog 143 := Yh
instance : Ya Tryz.prog 144 := Yh
instance : Ya Tryz.prog 145 := Yh
instance : Ya Tryz.prog 146 := Yh
instance : Ya Tryz.prog 147 := Yh
instance : Ya Tryz.prog 148 := Yh
instance : Ya Tryz.prog 149 := Yh
instance : Ya Tryz.prog 150 := Yh
instance : Ya Tryz.prog 151 := Yh
instance : Ya Tryz.prog 152 := Yh
instance : Ya Tryz.prog 153 := Yh
instance : Ya Tryz.prog 154 := Yh
instance : Ya Tryz.prog 155 := Yh
instance : Ya Tryz.prog 156 := Yh
instance : Ya Tryz.prog 157 := Yh
instance : Ya Tryz.prog 158 := Yh
instance : Ya Tryz.prog 159 := Yh
instance : Ya Tryz.prog 160 := Yh
instance : Ya Tryz.prog 161 := Yh
instance : Ya Tryz.prog 162 := Yh
instance : Ya Tryz.prog 163 := Yh
instance : Ya Tryz.prog 164 := Yh
instance : Ya Tryz.prog 165 := Yh
instance : Ya Tryz.prog 166 := Yh
instance : Ya Tryz.prog 169 := Yh
instance : Ya Tryz.prog 170 := Yh
instance : Ya Tryz.prog 171 := Yh
instance : Ya Tryz.prog 172 := Yh
instance : Ya Tryz.prog 173 := Yh
instance : Ya Tryz.prog 174 := Yh
instance : Ya Tryz.prog 175 := Yh
instance : Ya Tryz.prog 176 := Yh
instance : Ya Tryz.prog 177 := Yh
instance : Ya Tryz.prog 178 := Yh
instance : Ya Tryz.prog 179 := Yh
instance : Ya Tryz.prog 180 := Yh
instance : Ya Tryz.prog 181 := Yh
instance : Ya Tryz.prog 182 := Yh
instance : Ya Tryz.prog 183 := Yh
instance : Ya Tryz.prog 184 := Yh
instance : Ya Tryz.prog 185 := Yh
instance : Ya Tryz.prog 186 := Yh
instance : Ya Tryz.prog 187 := Yh
instance : Ya Tryz.prog 189 := Yh
instance : Ya Tryz.prog 190 := Yh
instance : Ya Tryz.prog 191 := Yh
instance : Ya Tryz.prog 192 := Yh
instance : Ya Tryz.prog 193 := Yh
instance : Ya Tryz.prog 194 := Yh
instance : Ya Tryz.prog 195 := Yh
instance : Ya Tryz.prog 196 := Yh
instance : Ya Tryz.prog 197 := Yh
instance : Ya Tryz.prog 198 := Yh
instance : Ya Tryz.prog 199 := Yh
instance : Ya Tryz.prog 200 := Yh
instance : Ya Tryz.prog 201 := Yh
instance : Ya Tryz.prog 202 := Yh
instance : Ya Tryz.prog 203 := Yh
instance : Ya Tryz.prog 205 := Yh
instance : Ya Tryz.prog 206 := Yh
instance : Ya Tryz.prog 207 := Yh
instance : Ya Tryz.prog 208 := Yh
instance : Ya Tryz.prog 209 := Yh
instance : Ya Tryz.prog 210 := Yh
instance : Ya Tryz.prog 211 := Yh
instance : Ya Tryz.prog 212 := Yh
instance : Ya Tryz.prog 213 := Yh
instance : Ya Tryz.prog 214 := Yh
instance : Ya Tryz.prog 215 := Yh
instance : Ya Tryz.prog 216 := Yh
instance : Ya Tryz.prog 217 := Yh
instance : Ya Tryz.prog 218 := Yh
instance : Ya Tryz.prog 219 := Yh
instance : Ya Tryz.prog 220 := Yh
instance : Ya Tryz.prog 221 := Yh
instance : Ya Tryz.prog 222 := Yh
instance : Ya Tryz.prog 223 := Yh
instance : Ya Tryz.prog 224 := Yh
instance : Ya Tryz.prog 225 := Yh
instance : Ya Tryz.prog 226 := Yh
instance : Ya Tryz.prog 227 := Yh
instance : Ya Tryz.prog 228 := Yh
instance : Ya Tryz.prog 229 := Yh
instance : Ya Tryz.prog 230 := Yh
instance : Ya Tryz.prog 231 := Yh
instance : Mixed Tryz.prog := ⟨by kernel_rfl⟩
end Go.Proofs.E
namespace Go.Proofs.E
open Go
set_option linter.unusedVariables false
set_option linter.unusedSimpArgs false
set_option linter.unusedSectionVars false
set_option maxRecDepth 4000
set_option maxHeartbeats 1000000
attribute [local irreducible] Yl TL TC TE Spec Xb R1 Hp.le EnvLe TS TR YS Zk
def be : Nat → Nat → List UInt8
 | 0, _ => []
 | n + 1, x => UInt8.ofNat (x / 256 ^ n) :: be n x
theorem Zm (n x : Nat) : (be n x).length = n := by induction n <;> simp [be, *]
def z8 (n : Nat) : List UInt8 := List.replicate n 0
theorem stc_mid (A B vs ws : List Value) (h : ws.length = vs.length) : stc (A ++ (vs ++ B)) A.length ws = A ++ (ws ++ B) := by
 unfold stc
 rw [List.take_left, h, ← List.drop_drop, List.drop_left, List.drop_left, List.append_assoc]
theorem u8_wrap (y : Nat) : Value.int .u8 (IntKind.u8.wrap (y : Int)) = ZR (UInt8.ofNat y) := by
 simp only [ZR, UInt8.toNat_ofNat', IntKind.wrap, IntKind.bits, IntKind.signed, Bool.false_and, Bool.false_eq_true, if_false]
 congr 1
theorem made_z8 (m : Nat) : madeCells (Value.int .u8 0).cells m = ⟨(z8 m).map ZR⟩ := by
 have hz : (Value.int IntKind.u8 0).cells = ⟨[ZR 0]⟩ := rfl
 rw [hz]
 apply Array.ext'
 apply List.ext_getElem?
 intro i
 by_cases hi : i < m
 ·simp [madeCells, z8, hi, Nat.mod_one]
 ·rw [List.getElem?_eq_none (by simp [madeCells]; omega), List.getElem?_eq_none (by simp [z8]; omega)]
theorem own_chunk (b n c : Nat) {xs : List Value} {T : TypeId} : [(b, Obj.cells ⟨xs⟩ T (0, 0))] = ZG (.slice (some ⟨b, 0, none⟩) n c) xs [] T := by simp [ZG]
theorem stand_spec (ρ : Hp) (a : Option Addr) (n c : Nat) (l : List UInt8) (h : SIn ρ ZR a n l) (x p : Nat) (hx : x < 18446744073709551616) (hp : p ≤ 8) (hp1 : 1 ≤ p) (hn : n ≤ 1000000) :
  Spec Tryz.prog 220 [.slice a n c, .int .u64 x, .int .i64 p] ρ [] (fun v ρ' L' => ρ' = ρ ∧ ∃ sp, OwnS v (n + p) ((l ++ be p x).map ZR) sp 1 ∧ L' = [ZG v ((l ++ be p x).map ZR) sp 5]) := by
 have hl := h.len
 refine Zd Tryz.func220 rfl rfl rfl fun u R => ?_
 simp only [Zo, List.cons_append, List.nil_append]
 repeat' (first | (refine tl_makeSlice rfl rfl (by omega) (by omega) (by omega) (by omega) rfl (fun hbn => ?_)) | refine zW ?_ | intro _)
 simp only [show ((n : Int) + (p : Int)).toNat = n + p by omega, Nat.mul_one, made_z8]
 have hinit : stc ((z8 (n + p)).map ZR) 0 ((l.map ZR).take (n + p)) = (l ++ (z8 (p - 0) ++ be 0 x)).map ZR := by
  rw [List.take_of_length_le (by simp; omega)]
  unfold stc
  have e : z8 (n + p) = z8 n ++ z8 p := by simp [z8, List.replicate_append_replicate]
  rw [e]
  simp [be, hl, z8]
 refine tl_copy (ys := l.map ZR) rfl rfl (SIn.srcV h) (by simpa using hl) (u8c_one l) (by simp [z8]) rfl ?_
 simp only [hinit]
 repeat' (first | refine zW ?_ | intro _)
 refine Zq [(6, _), (7, _), (17, _)] (fun (ζ : (Nat) × (Nat)) => [(18, .int .i64 ζ.1), (1, .int .u64 (ζ.2 : Nat))]) (fun (ζ : (Nat) × (Nat)) => ρ) (fun (ζ : (Nat) × (Nat)) => [[(hbn, .cells ⟨(l ++ (z8 (p - ζ.1) ++ be ζ.1 x)).map ZR⟩ 5 (0, 0))]]) (fun (ζ : (Nat) × (Nat)) => ζ.1 ≤ p ∧ ζ.2 = x / 256 ^ ζ.1) (fun (ζ : (Nat) × (Nat)) => p - ζ.1) ((0, x)) (⟨Nat.zero_le _, by simp⟩) Ze Ze rfl tk ?_
 rintro ⟨k, y⟩ hI
 try simp only [List.cons_append, List.nil_append, List.append_assoc, List.append_eq] at hI ⊢
 try dsimp only at hI ⊢
 obtain ⟨hk, hy⟩ := hI
 by_cases hlt : k < p
 ·have hlen : ((l ++ (z8 (p - k) ++ be k x)).map ZR).length = n + p := by simp [z8, Zm, hl]; omega
  have hst : stc ((l ++ (z8 (p - k) ++ be k x)).map ZR) (0 + ((n : Int) + (p : Int) - 1 - k).toNat * 1) [ZR (UInt8.ofNat y)] = (l ++ (z8 (p - (k + 1)) ++ be (k + 1) x)).map ZR := by
   have e1 : z8 (p - k) = z8 (p - (k + 1)) ++ [0] := by
    rw [show p - k = (p - (k + 1)) + 1 by omega]; simp [z8, List.replicate_succ']
   have e2 : 0 + ((n : Int) + (p : Int) - 1 - k).toNat * 1 = ((l ++ z8 (p - (k + 1))).map ZR).length := by simp [z8, hl]; omega
   have e3 : (l ++ (z8 (p - k) ++ be k x)).map ZR = (l ++ z8 (p - (k + 1))).map ZR ++ ([ZR 0] ++ (be k x).map ZR) := by rw [e1]; simp
   rw [e2, e3, stc_mid _ _ [ZR 0] [ZR (UInt8.ofNat y)] rfl, be, ← hy]
   simp
  have hyy : y / 256 = x / 256 ^ (k + 1) := by rw [hy, Nat.div_div_eq_div_mul, Nat.pow_succ]
  repeat' (first | refine zW ?_ | intro _)
  have e8 : (y : Int) / 2 ^ 8 = ((x / 256 ^ (k + 1) : Nat) : Int) := by
   rw [← hyy]
   have : (2 : Int) ^ 8 = 256 := by decide
   omega
  rw [e8, u8_wrap, Int.natCast_add, hst]
  refine Zg (k + 1, x / 256 ^ (k + 1)) (⟨hlt, rfl⟩) Ze Ze rfl tk inferInstance (by first | omega | (dsimp only; omega))
 ·have hk2 : k = p := by omega
  subst hk2
  simp only [Nat.sub_self, z8, List.replicate_zero, List.nil_append]
  repeat' (first | refine zW ?_ | intro _)
  rw [own_chunk hbn (n + k) (n + k)]
  exact qE ⟨rfl, [], ⟨.inr ⟨hbn, n + k, rfl, by simp [Zm, hl], by simp [Zm, hl], Nat.le_refl _⟩⟩, rfl⟩
theorem put16_spec (ρ : Hp) (a : Option Addr) (n c : Nat) (l : List UInt8) (h : SIn ρ ZR a n l) (x : Nat) (hx : x < 65536) (hn : n ≤ 1000000) :
  Spec Tryz.prog 215 [.slice a n c, .int .u16 x] ρ [] (fun v ρ' L' => ρ' = ρ ∧ ∃ sp, OwnS v (n + 2) ((l ++ be 2 x).map ZR) sp 1 ∧ L' = [ZG v ((l ++ be 2 x).map ZR) sp 5]) := by
 have hw : IntKind.u64.wrap (x : Int) = x := WO (by simp only [lo, hi]; omega)
 have hs := stand_spec ρ a n c l h x 2 (by omega) (by omega) (by omega) hn
 refine Zd Tryz.func215 rfl rfl rfl fun u R => ?_
 simp only [Zo, List.cons_append, List.nil_append]
 repeat' (first | (refine iCv ?_; refine tl_y (y_conv rfl) rfl rfl ?_; rw [hw]) | (refine Zc (.func 220) ?_; refine qC rfl rfl (hs) ?_; rintro v ρ' L' hle ⟨rfl, sp, hown, rfl⟩ <;> (try simp only [kM, kN, kO])) | refine zW ?_ | intro _)
 exact qE ⟨rfl, sp, hown, rfl⟩
theorem put64_spec (ρ : Hp) (a : Option Addr) (n c : Nat) (l : List UInt8) (h : SIn ρ ZR a n l) (x : Nat) (hx : x < 18446744073709551616) (hn : n ≤ 1000000) :
  Spec Tryz.prog 211 [.slice a n c, .int .u64 x] ρ [] (fun v ρ' L' => ρ' = ρ ∧ ∃ sp, OwnS v (n + 8) ((l ++ be 8 x).map ZR) sp 1 ∧ L' = [ZG v ((l ++ be 8 x).map ZR) sp 5]) := by
 have hs := stand_spec ρ a n c l h x 8 (by omega) (by omega) (by omega) hn
 refine Zd Tryz.func211 rfl rfl rfl fun u R => ?_
 simp only [Zo, List.cons_append, List.nil_append]
 repeat' (first | (refine Zc (.func 220) ?_; refine qC rfl rfl (hs) ?_; rintro v ρ' L' hle ⟨rfl, sp, hown, rfl⟩ <;> (try simp only [kM, kN, kO])) | refine zW ?_ | intro _)
 exact qE ⟨rfl, sp, hown, rfl⟩
theorem OwnS.zero (b sz : Nat) : OwnS (.slice (some ⟨b, 0, none⟩) 0 0) 0 [] [] sz := ⟨.inr ⟨b, 0, rfl, by simp, by simp, Nat.le_refl _⟩⟩
structure Row where
 t : Int
 id : Nat
 val : Int
 note : List UInt8
deriving DecidableEq
structure Kid where
 t : Int
 id : Nat
 page : Int
deriving DecidableEq
abbrev keyV (t : Int) (id : Nat) : List Value := [.int .i64 t, .int .u16 id]
abbrev rowV (r : Row) : List Value := [.int .i64 r.t, .int .u16 r.id, .int .i64 r.val, strV r.note]
abbrev kidV (k : Kid) : List Value := [.int .i64 k.t, .int .u16 k.id, .int .i64 k.page]
theorem Wx (ρ : Hp) (n : Int) : Spec Tryz.prog 191 [.int .i64 n] ρ [] (fun v ρ' L' => v = .bool (decide (0 ≤ n ∧ n < 3)) ∧ ρ' = ρ ∧ L' = []) := by
 refine Zd Tryz.func191 rfl rfl rfl fun u R => ?_
 simp only [Zo, List.cons_append, List.nil_append]
 by_cases h0 : 0 ≤ n
 ·by_cases h1 : n < 3
  ·rw [decide_eq_true ⟨h0, h1⟩]
   repeat' (first | refine zW ?_ | intro _)
   exact qE ⟨rfl, rfl, rfl⟩
  ·rw [decide_eq_false (fun h => h1 h.2)]
   repeat' (first | refine zW ?_ | intro _)
   exact qE ⟨rfl, rfl, rfl⟩
 ·rw [decide_eq_false (fun h => h0 h.1)]
  repeat' (first | refine zW ?_ | intro _)
  exact qE ⟨rfl, rfl, rfl⟩
def cmpI (x y : Int) : Int := if x < y then -1 else if y < x then 1 else 0
theorem nanI_spec (ρ : Hp) (x : Int) : Spec Tryz.prog 153 [.int .i64 x] ρ [] (fun v ρ' L' => v = .bool false ∧ ρ' = ρ ∧ L' = []) := by
 refine Zd Tryz.func153 rfl rfl rfl fun u R => ?_
 simp only [Zo, List.cons_append, List.nil_append]
 repeat' (first | refine zW ?_ | intro _)
 exact qE ⟨rfl, rfl, rfl⟩
theorem nanU_spec (ρ : Hp) (x : Int) : Spec Tryz.prog 231 [.int .u16 x] ρ [] (fun v ρ' L' => v = .bool false ∧ ρ' = ρ ∧ L' = []) := by
 refine Zd Tryz.func231 rfl rfl rfl fun u R => ?_
 simp only [Zo, List.cons_append, List.nil_append]
 repeat' (first | refine zW ?_ | intro _)
 exact qE ⟨rfl, rfl, rfl⟩
theorem cmpI_spec (ρ : Hp) (x y : Int) : Spec Tryz.prog 103 [.int .i64 x, .int .i64 y] ρ [] (fun v ρ' L' => v = .int .i64 (cmpI x y) ∧ ρ' = ρ ∧ L' = []) := by
 refine Zd Tryz.func103 rfl rfl rfl fun u R => ?_
 simp only [Zo, List.cons_append, List.nil_append]
 unfold cmpI
 split
 ·repeat' (first | (refine Zc (.func 153) ?_; refine qC rfl rfl (nanI_spec _ _) ?_; rintro v ρ' L' hle ⟨rfl, rfl, rfl⟩ <;> (try simp only [kM, kN, kO])) | refine zW ?_ | intro _)
  exact qE ⟨rfl, rfl, rfl⟩
 ·split
  ·repeat' (first | (refine Zc (.func 153) ?_; refine qC rfl rfl (nanI_spec _ _) ?_; rintro v ρ' L' hle ⟨rfl, rfl, rfl⟩ <;> (try simp only [kM, kN, kO])) | refine zW ?_ | intro _)
   exact qE ⟨rfl, rfl, rfl⟩
  ·repeat' (first | (refine Zc (.func 153) ?_; refine qC rfl rfl (nanI_spec _ _) ?_; rintro v ρ' L' hle ⟨rfl, rfl, rfl⟩ <;> (try simp only [kM, kN, kO])) | refine zW ?_ | intro _)
   exact qE ⟨rfl, rfl, rfl⟩
theorem cmpU_spec (ρ : Hp) (x y : Int) : Spec Tryz.prog 227 [.int .u16 x, .int .u16 y] ρ [] (fun v ρ' L' => v = .int .i64 (cmpI x y) ∧ ρ' = ρ ∧ L' = []) := by
 refine Zd Tryz.func227 rfl rfl rfl fun u R => ?_
 simp only [Zo, List.cons_append, List.nil_append]
 unfold cmpI
 split
 ·repeat' (first | (refine Zc (.func 231) ?_; refine qC rfl rfl (nanU_spec _ _) ?_; rintro v ρ' L' hle ⟨rfl, rfl, rfl⟩ <;> (try simp only [kM, kN, kO])) | refine zW ?_ | intro _)
  exact qE ⟨rfl, rfl, rfl⟩
 ·split
  ·repeat' (first | (refine Zc (.func 231) ?_; refine qC rfl rfl (nanU_spec _ _) ?_; rintro v ρ' L' hle ⟨rfl, rfl, rfl⟩ <;> (try simp only [kM, kN, kO])) | refine zW ?_ | intro _)
   exact qE ⟨rfl, rfl, rfl⟩
  ·repeat' (first | (refine Zc (.func 231) ?_; refine qC rfl rfl (nanU_spec _ _) ?_; rintro v ρ' L' hle ⟨rfl, rfl, rfl⟩ <;> (try simp only [kM, kN, kO])) | refine zW ?_ | intro _)
   exact qE ⟨rfl, rfl, rfl⟩
theorem or2_spec (ρ : Hp) (b : Nat) (x y : Int) : Spec Tryz.prog 226 [.slice (some ⟨b, 0, none⟩) 2 2] ρ [[(b, .cells ⟨[.int .i64 x, .int .i64 y]⟩ 3 (0, 0))]]
  (fun v ρ' L' => v = .int .i64 (if x = 0 then y else x) ∧ ρ' = ρ ∧ L' = [[(b, .cells ⟨[.int .i64 x, .int .i64 y]⟩ 3 (0, 0))]]) := by
 refine Zd Tryz.func226 rfl rfl rfl fun u R => ?_
 simp only [Zo, List.cons_append, List.nil_append]
 repeat' (first | refine zW ?_ | intro _)
 refine Zq [(2, _), (3, _), (6, _), (7, _)] (fun (ζ : (Nat)) => [(8, .int .i64 ζ)]) (fun (ζ : (Nat)) => ρ) (fun (ζ : (Nat)) => []) (fun (ζ : (Nat)) => ζ = 0 ∨ (ζ = 1 ∧ x = 0) ∨ (ζ = 2 ∧ x = 0 ∧ y = 0)) (fun (ζ : (Nat)) => 3 - ζ) (0) (.inl rfl) Ze Ze rfl tk ?_
 rintro k hI
 try simp only [List.cons_append, List.nil_append, List.append_assoc, List.append_eq] at hI ⊢
 try dsimp only at hI ⊢
 rcases hI with rfl | ⟨rfl, rfl⟩ | ⟨rfl, rfl, rfl⟩
 ·by_cases h : x = 0
  ·subst h
   repeat' (first | refine zW ?_ | intro _)
   refine Zg (1) (.inr (.inl ⟨rfl, rfl⟩)) Ze Ze rfl tk inferInstance (by first | omega | (dsimp only; omega))
  ·rw [if_neg h]
   repeat' (first | refine zW ?_ | intro _)
   exact qE ⟨rfl, rfl, rfl⟩
 ·by_cases h : y = 0
  ·subst h
   repeat' (first | refine zW ?_ | intro _)
   refine Zg (2) (.inr (.inr ⟨rfl, rfl, rfl⟩)) Ze Ze rfl tk inferInstance (by first | omega | (dsimp only; omega))
  ·repeat' (first | refine zW ?_ | intro _)
   exact qE ⟨rfl, rfl, rfl⟩
 ·repeat' (first | refine zW ?_ | intro _)
  exact qE ⟨rfl, rfl, rfl⟩
def cmpK (t1 : Int) (i1 : Nat) (t2 : Int) (i2 : Nat) : Int := if cmpI t1 t2 = 0 then cmpI i1 i2 else cmpI t1 t2
theorem cmpK_lt (t1 : Int) (i1 : Nat) (t2 : Int) (i2 : Nat) : cmpK t1 i1 t2 i2 < 0 ↔ t1 < t2 ∨ (t1 = t2 ∧ i1 < i2) := by
 unfold cmpK cmpI
 repeat' split
 all_goals omega
theorem XE (ρ : Hp) (t1 : Int) (i1 : Nat) (t2 : Int) (i2 : Nat) : Spec Tryz.prog 219 [.agg ⟨keyV t1 i1⟩, .agg ⟨keyV t2 i2⟩] ρ [] (fun v ρ' L' => v = .int .i64 (cmpK t1 i1 t2 i2) ∧ ρ' = ρ ∧ L' = []) := by
 refine Zd Tryz.func219 rfl rfl rfl fun u R => ?_
 simp only [Zo, List.cons_append, List.nil_append]
 repeat' (first | refine zW ?_ | intro _)
 refine Zu (Zk _ _ _) Zp ?_
 all_goals (refine ZN 0 ?_; refine ZQ 1 ?_; refine ZN 2 ?_; refine ZQ 3 ?_; refine ZN 5 ?_; refine ZQ 6 ?_; refine ZN 7 ?_; refine ZQ 8 ?_)
 all_goals (refine Zj (i := 4) ?_; ((try refine Zh ?_); (first | (refine Zc (.func 103) ?_; refine qC rfl rfl (cmpI_spec _ _ _) ?_; rintro v ρ' L' hle ⟨rfl, rfl, rfl⟩ <;> (try simp only [kM, kN, kO])) | (refine ZF ?_; try intro _)) <;> ((try simp only [kM, kN, kO]); refine Zf ?_; refine Zi ?_)))
 all_goals (refine Zj (i := 9) ?_; ((try refine Zh ?_); (first | (refine Zc (.func 227) ?_; refine qC rfl rfl (cmpU_spec _ _ _) ?_; rintro v ρ' L' hle ⟨rfl, rfl, rfl⟩ <;> (try simp only [kM, kN, kO])) | (refine ZF ?_; try intro _)) <;> ((try simp only [kM, kN, kO]); refine Zf ?_; refine Zi ?_)))
 all_goals (refine Zj (i := 10) ?_; ((try refine Zh ?_); (first | (refine Zl rfl rfl rfl rfl (by simp) rfl rfl (fun _ => ?_)) | (refine ZF ?_; try intro _)) <;> ((try simp only [kM, kN, kO]); refine Zf ?_; refine Zi ?_)))
 all_goals (refine Zj (i := 11) ?_; ((try refine Zh ?_); (first | (refine Zc (.func 226) ?_; refine qC rfl rfl (or2_spec _ _ _ _) ?_; rintro v ρ' L' hle ⟨rfl, rfl, rfl⟩ <;> (try simp only [kM, kN, kO])) | (refine ZF ?_; try intro _)) <;> ((try simp only [kM, kN, kO]); refine Zf ?_; refine Zi ?_)))
 all_goals (refine Zz ?_; refine rAs 12 ?_; refine Zv ?_)
 all_goals (repeat' (first | refine zW ?_ | intro _))
 all_goals exact qE ⟨rfl, rfl, rfl⟩
def Xr (r : Row) : Bool := decide ((0 ≤ r.t ∧ r.t < 3) ∧ r.note.length ≤ 8)
theorem checkRow_spec (ρ : Hp) (r : Row) : Spec Tryz.prog 174 [.agg ⟨rowV r⟩] ρ [] (fun v ρ' L' => v = .int .i64 (if Xr r then 0 else 151) ∧ ρ' = ρ ∧ L' = []) := by
 obtain ⟨t, id, val, note⟩ := r
 refine Zd Tryz.func174 rfl rfl rfl fun u R => ?_
 simp only [Zo, List.cons_append, List.nil_append, Xr, decide_eq_true_eq]
 by_cases h1 : 0 ≤ t ∧ t < 3
 ·have hd : decide (0 ≤ t ∧ t < 3) = true := decide_eq_true h1
  by_cases h2 : note.length ≤ 8
  ·rw [if_pos ⟨h1, h2⟩]
   repeat' (first | (refine Zc (.func 191) ?_; refine qC rfl rfl (Wx _ _) ?_; rintro v ρ' L' hle ⟨rfl, rfl, rfl⟩ <;> (try simp only [kM, kN, kO, hd])) | refine zW ?_ | intro _)
   exact qE ⟨rfl, rfl, rfl⟩
  ·rw [if_neg (fun h => h2 h.2)]
   repeat' (first | (refine Zc (.func 191) ?_; refine qC rfl rfl (Wx _ _) ?_; rintro v ρ' L' hle ⟨rfl, rfl, rfl⟩ <;> (try simp only [kM, kN, kO, hd])) | refine zW ?_ | intro _)
   exact qE ⟨rfl, rfl, rfl⟩
 ·have hd : decide (0 ≤ t ∧ t < 3) = false := decide_eq_false h1
  rw [if_neg (fun h => h1 h.1)]
  repeat' (first | (refine Zc (.func 191) ?_; refine qC rfl rfl (Wx _ _) ?_; rintro v ρ' L' hle ⟨rfl, rfl, rfl⟩ <;> (try simp only [kM, kN, kO, hd])) | refine zW ?_ | intro _)
  exact qE ⟨rfl, rfl, rfl⟩
def ZC {α : Type} (most : Nat) (right : Nat → α → Bool) (lt : α → α → Bool) (l : List α) : Nat → Bool
 | 0 => decide (l.length ≤ most)
 | k + 1 => ZC most right lt l k && (match l[k]? with | some x => right k x && (decide (k = 0) || (match l[k - 1]? with | some y => lt y x | none => false)) | none => false)
theorem YK {α : Type} {most : Nat} {right : Nat → α → Bool} {lt : α → α → Bool} {l : List α} {k : Nat} (h : k < l.length) : ZC most right lt l (k + 1) = (ZC most right lt l k && (right k l[k] && (decide (k = 0) || lt (l[k - 1]'(by omega)) l[k]))) := by
 rw [ZC]
 simp [h, show k - 1 < l.length by omega]
theorem risesB_false {α : Type} {most : Nat} {right : Nat → α → Bool} {lt : α → α → Bool} {l : List α} {k : Nat} (h : ZC most right lt l k = false) : ∀ m, ZC most right lt l (k + m) = false
 | 0 => h
 | m + 1 => by rw [← Nat.add_assoc, ZC, risesB_false h m]; rfl
theorem YF {α : Type} {most : Nat} {right : Nat → α → Bool} {lt : α → α → Bool} {l : List α} {k n : Nat} (h : ZC most right lt l k = false) (hk : k ≤ n) : ZC most right lt l n = false := by
 have := risesB_false h (n - k)
 rwa [Nat.add_sub_cancel' hk] at this
theorem Ye (ρ : Hp) (r : Row) : Spec Tryz.prog 206 [.agg ⟨rowV r⟩] ρ [] (fun v ρ' L' => v = .agg ⟨keyV r.t r.id⟩ ∧ ρ' = ρ ∧ L' = []) := by
 refine Zd Tryz.func206 rfl rfl rfl fun u R => ?_
 simp only [Zo, List.cons_append, List.nil_append]
 repeat' (first | refine zW ?_ | intro _)
 exact qE ⟨rfl, rfl, rfl⟩
theorem Xk (ρ : Hp) (i : Int) (r : Row) : Spec Tryz.prog 207 [.int .i64 i, .agg ⟨rowV r⟩] ρ [] (fun v ρ' L' => v = .bool (Xr r) ∧ ρ' = ρ ∧ L' = []) := by
 refine Zd Tryz.func207 rfl rfl rfl fun u R => ?_
 simp only [Zo, List.cons_append, List.nil_append]
 cases h : Xr r
 ·repeat' (first | (refine Zc (.func 174) ?_; refine qC rfl rfl (checkRow_spec _ r) ?_; rintro v ρ' L' hle ⟨rfl, rfl, rfl⟩ <;> (try simp only [kM, kN, kO, h, if_false, Bool.false_eq_true])) | refine zW ?_ | intro _)
  exact qE ⟨rfl, rfl, rfl⟩
 ·repeat' (first | (refine Zc (.func 174) ?_; refine qC rfl rfl (checkRow_spec _ r) ?_; rintro v ρ' L' hle ⟨rfl, rfl, rfl⟩ <;> (try simp only [kM, kN, kO, h, if_true])) | refine zW ?_ | intro _)
  exact qE ⟨rfl, rfl, rfl⟩
def ltR (y x : Row) : Bool := decide (cmpK y.t y.id x.t x.id < 0)
def rowsOk (l : List Row) : Bool := ZC 4 (fun _ r => Xr r) ltR l l.length
theorem rowV_len (r : Row) : (rowV r).length = 4 := rfl
theorem risesRow_spec (ρ : Hp) (a : Option Addr) (n c : Nat) (l : List Row) (h : AIn ρ 4 rowV a n l) (hn : n ≤ 1000000) :
  Spec Tryz.prog 205 [.slice a n c, .int .i64 4, .func (.func 206) ⟨[]⟩ ⟨[]⟩, .func (.func 207) ⟨[]⟩ ⟨[]⟩] ρ [] (fun v ρ' L' => v = .bool (rowsOk l) ∧ ρ' = ρ ∧ L' = []) := by
 have hl := h.len
 unfold rowsOk
 rw [hl]
 refine Zd Tryz.func205 rfl rfl rfl fun u R => ?_
 simp only [Zo, List.cons_append, List.nil_append]
 repeat' (first | refine zW ?_ | intro _)
 have e0 : decide ((n : Int) ≤ 4) = ZC 4 (fun _ r => Xr r) ltR l 0 := by
  rw [ZC]; simp [hl]; omega
 rw [e0]
 refine Zq [(0, _), (2, _), (3, _), (8, _), (16, _), (17, _)] (fun (ζ : (Nat)) => [(18, .int .i64 ζ), (9, .bool (ZC 4 (fun _ r => Xr r) ltR l ζ))]) (fun (ζ : (Nat)) => ρ) (fun (ζ : (Nat)) => []) (fun (ζ : (Nat)) => ζ ≤ n) (fun (ζ : (Nat)) => n - ζ) (0) (Nat.zero_le _) Ze Ze rfl tk ?_
 rintro k hI
 try simp only [List.cons_append, List.nil_append, List.append_assoc, List.append_eq] at hI ⊢
 try dsimp only at hI ⊢
 by_cases hlt : k < n
 ·obtain ⟨b, off, C, T, fr, rfl, hb, hfit, hc⟩ := h.get (show k < l.length by omega)
  have hs := YK (most := 4) (right := fun _ r => Xr r) (lt := ltR) (show k < l.length by omega)
  have hfin := fun (e : ZC 4 (fun _ r => Xr r) ltR l (k + 1) = false) => YF e (show k + 1 ≤ n by omega)
  cases hok : ZC 4 (fun _ r => Xr r) ltR l k
  ·rw [hok, Bool.false_and] at hs
   rw [hfin hs]
   generalize l[k] = x at *
   repeat' (first | refine zW ?_ | intro _)
   refine Zu (Zk _ _ _) Zp ?_
   all_goals (refine Zx 0 ?_; refine Zx 1 ?_; (first | refine Zb 2 ?_ | refine Za 2 ?_ | refine ZI 2 ?_); (first | refine Zb 3 ?_ | refine Za 3 ?_ | refine ZI 3 ?_); (first | refine Zb 4 ?_ | refine Za 4 ?_ | refine ZL 4 ?_))
   all_goals (first | refine Zb 5 ?_ | refine Za 5 ?_ | (refine Zj (i := 5) ?_; ((try refine Zh ?_); (first | (refine ZF ?_; try intro _)) <;> ((try simp only [kM, kN, kO]); refine Zf ?_; refine Zi ?_))))
   all_goals (refine Yj 6 ?_; refine Zx 7 ?_; (first | refine Zb 8 ?_ | refine Za 8 ?_ | refine ZI 8 ?_); (first | refine Zb 9 ?_ | refine Za 9 ?_ | refine Yg 9 ?_); (first | refine Zb 10 ?_ | refine Za 10 ?_ | refine ZI 10 ?_); (first | refine Zb 11 ?_ | refine Za 11 ?_ | refine ZI 11 ?_); (first | refine Zb 12 ?_ | refine Za 12 ?_ | refine ZI 12 ?_); (first | refine Zb 13 ?_ | refine Za 13 ?_ | refine ZI 13 ?_); (first | refine Zb 14 ?_ | refine Za 14 ?_ | refine wSb 14 ?_); (first | refine Zb 15 ?_ | refine Za 15 ?_ | refine wIa 15 ?_); (first | refine Zb 16 ?_ | refine Za 16 ?_ | refine ZL 16 ?_); (first | refine Zb 18 ?_ | refine Za 18 ?_ | refine ZI 18 ?_); (first | refine Zb 19 ?_ | refine Za 19 ?_ | refine ZL 19 ?_))
   all_goals (first | refine Zb 17 ?_ | refine Za 17 ?_ | (refine Zj (i := 17) ?_; ((try refine Zh ?_); (first | (refine ZF ?_; try intro _)) <;> ((try simp only [kM, kN, kO]); refine Zf ?_; refine Zi ?_))))
   all_goals (first | refine Zb 20 ?_ | refine Za 20 ?_ | (refine Zj (i := 20) ?_; ((try refine Zh ?_); (first | (refine ZF ?_; try intro _)) <;> ((try simp only [kM, kN, kO]); refine Zf ?_; refine Zi ?_))))
   all_goals (first | refine Zb 21 ?_ | refine Za 21 ?_ | (refine Zj (i := 21) ?_; ((try refine Zh ?_); (first | (refine ZF ?_; try intro _)) <;> ((try simp only [kM, kN, kO]); refine Zf ?_; refine Zi ?_))))
   all_goals (refine Zz ?_; (first | refine Zb 22 ?_ | refine Za 22 ?_ | refine Yg 22 ?_); (first | refine Zb 23 ?_ | refine Za 23 ?_ | refine wPk 23 ?_); refine Yj 24 ?_; refine rAs 25 ?_; refine Zv ?_)
   repeat' (first | refine zW ?_ | intro _)
   exact qE ⟨rfl, rfl, rfl⟩
  ·rw [hok, Bool.true_and] at hs
   cases hx : Xr l[k]
   ·rw [hx, Bool.false_and] at hs
    rw [hfin hs]
    generalize l[k] = x at *
    repeat' (first | refine zW ?_ | intro _)
    refine Zu (Zk _ _ _) Zp ?_
    all_goals (refine Zx 0 ?_; refine Zx 1 ?_; (first | refine Zb 2 ?_ | refine Za 2 ?_ | refine ZI 2 ?_); (first | refine Zb 3 ?_ | refine Za 3 ?_ | refine ZI 3 ?_); (first | refine Zb 4 ?_ | refine Za 4 ?_ | refine ZL 4 ?_))
    all_goals (first | refine Zb 5 ?_ | refine Za 5 ?_ | (refine Zj (i := 5) ?_; ((try refine Zh ?_); (first | (refine Zc (.tmp 25) ?_; refine qC rfl rfl (Xk _ _ _) ?_; rintro v ρ' L' hle ⟨rfl, rfl, rfl⟩ <;> (try simp only [kM, kN, kO, hx])) | (refine Zc (.tmp 34) ?_; refine qC rfl rfl (Ye _ _) ?_; rintro v ρ' L' hle ⟨rfl, rfl, rfl⟩ <;> (try simp only [kM, kN, kO])) | (refine Zc (.tmp 41) ?_; refine qC rfl rfl (Ye _ _) ?_; rintro v ρ' L' hle ⟨rfl, rfl, rfl⟩ <;> (try simp only [kM, kN, kO])) | (refine ZF ?_; try intro _)) <;> ((try simp only [kM, kN, kO]); refine Zf ?_; refine Zi ?_))))
    all_goals (refine Yj 6 ?_; refine Zx 7 ?_; (first | refine Zb 8 ?_ | refine Za 8 ?_ | refine ZI 8 ?_); (first | refine Zb 9 ?_ | refine Za 9 ?_ | refine Yg 9 ?_); (first | refine Zb 10 ?_ | refine Za 10 ?_ | refine ZI 10 ?_); (first | refine Zb 11 ?_ | refine Za 11 ?_ | refine ZI 11 ?_); (first | refine Zb 12 ?_ | refine Za 12 ?_ | refine ZI 12 ?_); (first | refine Zb 13 ?_ | refine Za 13 ?_ | refine ZI 13 ?_); (first | refine Zb 14 ?_ | refine Za 14 ?_ | refine wSb 14 ?_); (first | refine Zb 15 ?_ | refine Za 15 ?_ | refine wIa 15 ?_); (first | refine Zb 16 ?_ | refine Za 16 ?_ | refine ZL 16 ?_); (first | refine Zb 18 ?_ | refine Za 18 ?_ | refine ZI 18 ?_); (first | refine Zb 19 ?_ | refine Za 19 ?_ | refine ZL 19 ?_))
    all_goals (first | refine Zb 17 ?_ | refine Za 17 ?_ | (refine Zj (i := 17) ?_; ((try refine Zh ?_); (first | (refine Zc (.tmp 25) ?_; refine qC rfl rfl (Xk _ _ _) ?_; rintro v ρ' L' hle ⟨rfl, rfl, rfl⟩ <;> (try simp only [kM, kN, kO, hx])) | (refine Zc (.tmp 34) ?_; refine qC rfl rfl (Ye _ _) ?_; rintro v ρ' L' hle ⟨rfl, rfl, rfl⟩ <;> (try simp only [kM, kN, kO])) | (refine Zc (.tmp 41) ?_; refine qC rfl rfl (Ye _ _) ?_; rintro v ρ' L' hle ⟨rfl, rfl, rfl⟩ <;> (try simp only [kM, kN, kO])) | (refine ZF ?_; try intro _)) <;> ((try simp only [kM, kN, kO]); refine Zf ?_; refine Zi ?_))))
    all_goals (first | refine Zb 20 ?_ | refine Za 20 ?_ | (refine Zj (i := 20) ?_; ((try refine Zh ?_); (first | (refine Zc (.tmp 25) ?_; refine qC rfl rfl (Xk _ _ _) ?_; rintro v ρ' L' hle ⟨rfl, rfl, rfl⟩ <;> (try simp only [kM, kN, kO, hx])) | (refine Zc (.tmp 34) ?_; refine qC rfl rfl (Ye _ _) ?_; rintro v ρ' L' hle ⟨rfl, rfl, rfl⟩ <;> (try simp only [kM, kN, kO])) | (refine Zc (.tmp 41) ?_; refine qC rfl rfl (Ye _ _) ?_; rintro v ρ' L' hle ⟨rfl, rfl, rfl⟩ <;> (try simp only [kM, kN, kO])) | (refine ZF ?_; try intro _)) <;> ((try simp only [kM, kN, kO]); refine Zf ?_; refine Zi ?_))))
    all_goals (first | refine Zb 21 ?_ | refine Za 21 ?_ | (refine Zj (i := 21) ?_; ((try refine Zh ?_); (first | (refine Zc (.func 219) ?_; refine qC rfl rfl (XE _ _ _ _ _) ?_; rintro v ρ' L' hle ⟨rfl, rfl, rfl⟩ <;> (try simp only [kM, kN, kO])) | (refine ZF ?_; try intro _)) <;> ((try simp only [kM, kN, kO]); refine Zf ?_; refine Zi ?_))))
    all_goals (refine Zz ?_; (first | refine Zb 22 ?_ | refine Za 22 ?_ | refine Yg 22 ?_); (first | refine Zb 23 ?_ | refine Za 23 ?_ | refine wPk 23 ?_); refine Yj 24 ?_; refine rAs 25 ?_; refine Zv ?_)
    repeat' (first | refine zW ?_ | intro _)
    exact qE ⟨rfl, rfl, rfl⟩
   ·rw [hx, Bool.true_and] at hs
    by_cases hk0 : k = 0
    ·have hs' : ZC 4 (fun _ r => Xr r) ltR l (k + 1) = true := by rw [hs]; simp [hk0]
     generalize l[k] = x at *
     repeat' (first | refine zW ?_ | intro _)
     refine Zu (Zk _ _ _) Zp ?_
     all_goals (refine Zx 0 ?_; refine Zx 1 ?_; (first | refine Zb 2 ?_ | refine Za 2 ?_ | refine ZI 2 ?_); (first | refine Zb 3 ?_ | refine Za 3 ?_ | refine ZI 3 ?_); (first | refine Zb 4 ?_ | refine Za 4 ?_ | refine ZL 4 ?_))
     all_goals (first | refine Zb 5 ?_ | refine Za 5 ?_ | (refine Zj (i := 5) ?_; ((try refine Zh ?_); (first | (refine Zc (.tmp 25) ?_; refine qC rfl rfl (Xk _ _ _) ?_; rintro v ρ' L' hle ⟨rfl, rfl, rfl⟩ <;> (try simp only [kM, kN, kO, hx])) | (refine Zc (.tmp 34) ?_; refine qC rfl rfl (Ye _ _) ?_; rintro v ρ' L' hle ⟨rfl, rfl, rfl⟩ <;> (try simp only [kM, kN, kO])) | (refine Zc (.tmp 41) ?_; refine qC rfl rfl (Ye _ _) ?_; rintro v ρ' L' hle ⟨rfl, rfl, rfl⟩ <;> (try simp only [kM, kN, kO])) | (refine ZF ?_; try intro _)) <;> ((try simp only [kM, kN, kO]); refine Zf ?_; refine Zi ?_))))
     all_goals (refine Yj 6 ?_; refine Zx 7 ?_; (first | refine Zb 8 ?_ | refine Za 8 ?_ | refine ZI 8 ?_); (first | refine Zb 9 ?_ | refine Za 9 ?_ | refine Yg 9 ?_); (first | refine Zb 10 ?_ | refine Za 10 ?_ | refine ZI 10 ?_); (first | refine Zb 11 ?_ | refine Za 11 ?_ | refine ZI 11 ?_); (first | refine Zb 12 ?_ | refine Za 12 ?_ | refine ZI 12 ?_); (first | refine Zb 13 ?_ | refine Za 13 ?_ | refine ZI 13 ?_); (first | refine Zb 14 ?_ | refine Za 14 ?_ | refine wSb 14 ?_); (first | refine Zb 15 ?_ | refine Za 15 ?_ | refine wIa 15 ?_); (first | refine Zb 16 ?_ | refine Za 16 ?_ | refine ZL 16 ?_); (first | refine Zb 18 ?_ | refine Za 18 ?_ | refine ZI 18 ?_); (first | refine Zb 19 ?_ | refine Za 19 ?_ | refine ZL 19 ?_))
     all_goals (first | refine Zb 17 ?_ | refine Za 17 ?_ | (refine Zj (i := 17) ?_; ((try refine Zh ?_); (first | (refine Zc (.tmp 25) ?_; refine qC rfl rfl (Xk _ _ _) ?_; rintro v ρ' L' hle ⟨rfl, rfl, rfl⟩ <;> (try simp only [kM, kN, kO, hx])) | (refine Zc (.tmp 34) ?_; refine qC rfl rfl (Ye _ _) ?_; rintro v ρ' L' hle ⟨rfl, rfl, rfl⟩ <;> (try simp only [kM, kN, kO])) | (refine Zc (.tmp 41) ?_; refine qC rfl rfl (Ye _ _) ?_; rintro v ρ' L' hle ⟨rfl, rfl, rfl⟩ <;> (try simp only [kM, kN, kO])) | (refine ZF ?_; try intro _)) <;> ((try simp only [kM, kN, kO]); refine Zf ?_; refine Zi ?_))))
     all_goals (first | refine Zb 20 ?_ | refine Za 20 ?_ | (refine Zj (i := 20) ?_; ((try refine Zh ?_); (first | (refine Zc (.tmp 25) ?_; refine qC rfl rfl (Xk _ _ _) ?_; rintro v ρ' L' hle ⟨rfl, rfl, rfl⟩ <;> (try simp only [kM, kN, kO, hx])) | (refine Zc (.tmp 34) ?_; refine qC rfl rfl (Ye _ _) ?_; rintro v ρ' L' hle ⟨rfl, rfl, rfl⟩ <;> (try simp only [kM, kN, kO])) | (refine Zc (.tmp 41) ?_; refine qC rfl rfl (Ye _ _) ?_; rintro v ρ' L' hle ⟨rfl, rfl, rfl⟩ <;> (try simp only [kM, kN, kO])) | (refine ZF ?_; try intro _)) <;> ((try simp only [kM, kN, kO]); refine Zf ?_; refine Zi ?_))))
     all_goals (first | refine Zb 21 ?_ | refine Za 21 ?_ | (refine Zj (i := 21) ?_; ((try refine Zh ?_); (first | (refine Zc (.func 219) ?_; refine qC rfl rfl (XE _ _ _ _ _) ?_; rintro v ρ' L' hle ⟨rfl, rfl, rfl⟩ <;> (try simp only [kM, kN, kO])) | (refine ZF ?_; try intro _)) <;> ((try simp only [kM, kN, kO]); refine Zf ?_; refine Zi ?_))))
     all_goals (refine Zz ?_; (first | refine Zb 22 ?_ | refine Za 22 ?_ | refine Yg 22 ?_); (first | refine Zb 23 ?_ | refine Za 23 ?_ | refine wPk 23 ?_); refine Yj 24 ?_; refine rAs 25 ?_; refine Zv ?_)
     repeat' (first | refine zW ?_ | intro _)
     rw [← hs']
     refine Zg (k + 1) (hlt) Ze Ze rfl tk inferInstance (by first | omega | (dsimp only; omega))
    ·have hd : decide (k = 0) = false := decide_eq_false hk0
     obtain ⟨b2, off2, C2, T2, fr2, f1, hb2, hfit2, hc2⟩ := h.get (show k - 1 < l.length by omega)
     cases f1
     rw [hb] at hb2
     cases hb2
     have ek : ((k : Int) - 1).toNat = k - 1 := by omega
     rw [← ek] at hfit2
     have hc3 : List.take 4 (List.drop (off + ((k : Int) - 1).toNat * 4) C) = rowV (l[k - 1]'(by omega)) := by rw [ek]; exact hc2
     clear hc2
     rw [hd, Bool.false_or] at hs
     generalize l[k] = x at *
     generalize l[k - 1]'(by omega) = y at *
     unfold ltR at hs
     by_cases hcm : cmpK y.t y.id x.t x.id < 0
     ·rw [decide_eq_true hcm] at hs
      repeat' (first | refine zW ?_ | intro _)
      refine Zu (Zk _ _ _) Zp ?_
      all_goals (refine Zx 0 ?_; refine Zx 1 ?_; (first | refine Zb 2 ?_ | refine Za 2 ?_ | refine ZI 2 ?_); (first | refine Zb 3 ?_ | refine Za 3 ?_ | refine ZI 3 ?_); (first | refine Zb 4 ?_ | refine Za 4 ?_ | refine ZL 4 ?_))
      all_goals (first | refine Zb 5 ?_ | refine Za 5 ?_ | (refine Zj (i := 5) ?_; ((try refine Zh ?_); (first | (refine Zc (.tmp 25) ?_; refine qC rfl rfl (Xk _ _ _) ?_; rintro v ρ' L' hle ⟨rfl, rfl, rfl⟩ <;> (try simp only [kM, kN, kO, hx])) | (refine Zc (.tmp 34) ?_; refine qC rfl rfl (Ye _ _) ?_; rintro v ρ' L' hle ⟨rfl, rfl, rfl⟩ <;> (try simp only [kM, kN, kO])) | (refine Zc (.tmp 41) ?_; refine qC rfl rfl (Ye _ _) ?_; rintro v ρ' L' hle ⟨rfl, rfl, rfl⟩ <;> (try simp only [kM, kN, kO])) | (refine ZF ?_; try intro _)) <;> ((try simp only [kM, kN, kO]); refine Zf ?_; refine Zi ?_))))
      all_goals (refine Yj 6 ?_; refine Zx 7 ?_; (first | refine Zb 8 ?_ | refine Za 8 ?_ | refine ZI 8 ?_); (first | refine Zb 9 ?_ | refine Za 9 ?_ | refine Yg 9 ?_); (first | refine Zb 10 ?_ | refine Za 10 ?_ | refine ZI 10 ?_); (first | refine Zb 11 ?_ | refine Za 11 ?_ | refine ZI 11 ?_); (first | refine Zb 12 ?_ | refine Za 12 ?_ | refine ZI 12 ?_); (first | refine Zb 13 ?_ | refine Za 13 ?_ | refine ZI 13 ?_); (first | refine Zb 14 ?_ | refine Za 14 ?_ | refine wSb 14 ?_); (first | refine Zb 15 ?_ | refine Za 15 ?_ | refine wIa 15 ?_); (first | refine Zb 16 ?_ | refine Za 16 ?_ | refine ZL 16 ?_); (first | refine Zb 18 ?_ | refine Za 18 ?_ | refine ZI 18 ?_); (first | refine Zb 19 ?_ | refine Za 19 ?_ | refine ZL 19 ?_))
      all_goals (first | refine Zb 17 ?_ | refine Za 17 ?_ | (refine Zj (i := 17) ?_; ((try refine Zh ?_); (first | (refine Zc (.tmp 25) ?_; refine qC rfl rfl (Xk _ _ _) ?_; rintro v ρ' L' hle ⟨rfl, rfl, rfl⟩ <;> (try simp only [kM, kN, kO, hx])) | (refine Zc (.tmp 34) ?_; refine qC rfl rfl (Ye _ _) ?_; rintro v ρ' L' hle ⟨rfl, rfl, rfl⟩ <;> (try simp only [kM, kN, kO])) | (refine Zc (.tmp 41) ?_; refine qC rfl rfl (Ye _ _) ?_; rintro v ρ' L' hle ⟨rfl, rfl, rfl⟩ <;> (try simp only [kM, kN, kO])) | (refine ZF ?_; try intro _)) <;> ((try simp only [kM, kN, kO]); refine Zf ?_; refine Zi ?_))))
      all_goals (first | refine Zb 20 ?_ | refine Za 20 ?_ | (refine Zj (i := 20) ?_; ((try refine Zh ?_); (first | (refine Zc (.tmp 25) ?_; refine qC rfl rfl (Xk _ _ _) ?_; rintro v ρ' L' hle ⟨rfl, rfl, rfl⟩ <;> (try simp only [kM, kN, kO, hx])) | (refine Zc (.tmp 34) ?_; refine qC rfl rfl (Ye _ _) ?_; rintro v ρ' L' hle ⟨rfl, rfl, rfl⟩ <;> (try simp only [kM, kN, kO])) | (refine Zc (.tmp 41) ?_; refine qC rfl rfl (Ye _ _) ?_; rintro v ρ' L' hle ⟨rfl, rfl, rfl⟩ <;> (try simp only [kM, kN, kO])) | (refine ZF ?_; try intro _)) <;> ((try simp only [kM, kN, kO]); refine Zf ?_; refine Zi ?_))))
      all_goals (first | refine Zb 21 ?_ | refine Za 21 ?_ | (refine Zj (i := 21) ?_; ((try refine Zh ?_); (first | (refine Zc (.func 219) ?_; refine qC rfl rfl (XE _ _ _ _ _) ?_; rintro v ρ' L' hle ⟨rfl, rfl, rfl⟩ <;> (try simp only [kM, kN, kO])) | (refine ZF ?_; try intro _)) <;> ((try simp only [kM, kN, kO]); refine Zf ?_; refine Zi ?_))))
      all_goals (refine Zz ?_; (first | refine Zb 22 ?_ | refine Za 22 ?_ | refine Yg 22 ?_); (first | refine Zb 23 ?_ | refine Za 23 ?_ | refine wPk 23 ?_); refine Yj 24 ?_; refine rAs 25 ?_; refine Zv ?_)
      all_goals (repeat' (first | refine zW ?_ | intro _))
      all_goals rw [← hs]
      all_goals refine Zg (k + 1) (hlt) Ze Ze rfl tk inferInstance (by first | omega | (dsimp only; omega))
     ·rw [decide_eq_false hcm] at hs
      rw [hfin hs]
      repeat' (first | refine zW ?_ | intro _)
      refine Zu (Zk _ _ _) Zp ?_
      all_goals (refine Zx 0 ?_; refine Zx 1 ?_; (first | refine Zb 2 ?_ | refine Za 2 ?_ | refine ZI 2 ?_); (first | refine Zb 3 ?_ | refine Za 3 ?_ | refine ZI 3 ?_); (first | refine Zb 4 ?_ | refine Za 4 ?_ | refine ZL 4 ?_))
      all_goals (first | refine Zb 5 ?_ | refine Za 5 ?_ | (refine Zj (i := 5) ?_; ((try refine Zh ?_); (first | (refine Zc (.tmp 25) ?_; refine qC rfl rfl (Xk _ _ _) ?_; rintro v ρ' L' hle ⟨rfl, rfl, rfl⟩ <;> (try simp only [kM, kN, kO, hx])) | (refine Zc (.tmp 34) ?_; refine qC rfl rfl (Ye _ _) ?_; rintro v ρ' L' hle ⟨rfl, rfl, rfl⟩ <;> (try simp only [kM, kN, kO])) | (refine Zc (.tmp 41) ?_; refine qC rfl rfl (Ye _ _) ?_; rintro v ρ' L' hle ⟨rfl, rfl, rfl⟩ <;> (try simp only [kM, kN, kO])) | (refine ZF ?_; try intro _)) <;> ((try simp only [kM, kN, kO]); refine Zf ?_; refine Zi ?_))))
      all_goals (refine Yj 6 ?_; refine Zx 7 ?_; (first | refine Zb 8 ?_ | refine Za 8 ?_ | refine ZI 8 ?_); (first | refine Zb 9 ?_ | refine Za 9 ?_ | refine Yg 9 ?_); (first | refine Zb 10 ?_ | refine Za 10 ?_ | refine ZI 10 ?_); (first | refine Zb 11 ?_ | refine Za 11 ?_ | refine ZI 11 ?_); (first | refine Zb 12 ?_ | refine Za 12 ?_ | refine ZI 12 ?_); (first | refine Zb 13 ?_ | refine Za 13 ?_ | refine ZI 13 ?_); (first | refine Zb 14 ?_ | refine Za 14 ?_ | refine wSb 14 ?_); (first | refine Zb 15 ?_ | refine Za 15 ?_ | refine wIa 15 ?_); (first | refine Zb 16 ?_ | refine Za 16 ?_ | refine ZL 16 ?_); (first | refine Zb 18 ?_ | refine Za 18 ?_ | refine ZI 18 ?_); (first | refine Zb 19 ?_ | refine Za 19 ?_ | refine ZL 19 ?_))
      all_goals (first | refine Zb 17 ?_ | refine Za 17 ?_ | (refine Zj (i := 17) ?_; ((try refine Zh ?_); (first | (refine Zc (.tmp 25) ?_; refine qC rfl rfl (Xk _ _ _) ?_; rintro v ρ' L' hle ⟨rfl, rfl, rfl⟩ <;> (try simp only [kM, kN, kO, hx])) | (refine Zc (.tmp 34) ?_; refine qC rfl rfl (Ye _ _) ?_; rintro v ρ' L' hle ⟨rfl, rfl, rfl⟩ <;> (try simp only [kM, kN, kO])) | (refine Zc (.tmp 41) ?_; refine qC rfl rfl (Ye _ _) ?_; rintro v ρ' L' hle ⟨rfl, rfl, rfl⟩ <;> (try simp only [kM, kN, kO])) | (refine ZF ?_; try intro _)) <;> ((try simp only [kM, kN, kO]); refine Zf ?_; refine Zi ?_))))
      all_goals (first | refine Zb 20 ?_ | refine Za 20 ?_ | (refine Zj (i := 20) ?_; ((try refine Zh ?_); (first | (refine Zc (.tmp 25) ?_; refine qC rfl rfl (Xk _ _ _) ?_; rintro v ρ' L' hle ⟨rfl, rfl, rfl⟩ <;> (try simp only [kM, kN, kO, hx])) | (refine Zc (.tmp 34) ?_; refine qC rfl rfl (Ye _ _) ?_; rintro v ρ' L' hle ⟨rfl, rfl, rfl⟩ <;> (try simp only [kM, kN, kO])) | (refine Zc (.tmp 41) ?_; refine qC rfl rfl (Ye _ _) ?_; rintro v ρ' L' hle ⟨rfl, rfl, rfl⟩ <;> (try simp only [kM, kN, kO])) | (refine ZF ?_; try intro _)) <;> ((try simp only [kM, kN, kO]); refine Zf ?_; refine Zi ?_))))
      all_goals (first | refine Zb 21 ?_ | refine Za 21 ?_ | (refine Zj (i := 21) ?_; ((try refine Zh ?_); (first | (refine Zc (.func 219) ?_; refine qC rfl rfl (XE _ _ _ _ _) ?_; rintro v ρ' L' hle ⟨rfl, rfl, rfl⟩ <;> (try simp only [kM, kN, kO])) | (refine ZF ?_; try intro _)) <;> ((try simp only [kM, kN, kO]); refine Zf ?_; refine Zi ?_))))
      all_goals (refine Zz ?_; (first | refine Zb 22 ?_ | refine Za 22 ?_ | refine Yg 22 ?_); (first | refine Zb 23 ?_ | refine Za 23 ?_ | refine wPk 23 ?_); refine Yj 24 ?_; refine rAs 25 ?_; refine Zv ?_)
      all_goals (repeat' (first | refine zW ?_ | intro _))
      all_goals exact qE ⟨rfl, rfl, rfl⟩
 ·have hk2 : k = n := by omega
  subst hk2
  repeat' (first | refine zW ?_ | intro _)
  exact qE ⟨rfl, rfl, rfl⟩
end Go.Proofs.E
