/- Laws of RedoLast. Part 4 of 19. -/
import Derived.Test.YtpcfmhifkkpjpaaGreatB3
import Derived.Lib.Overlaps
import Derived.Laws.Externs
namespace Go.Proofs.E
open Go
set_option linter.unusedVariables false
attribute [local irreducible] Yl TL TC TE Spec ZK R1 Hp.le EnvLe TS TR YS Zp
section
variable {x : Cx} {E : Env} {ρ ρ0 : Hp} {L : SH} {v : Value}
theorem qF {e : Exit} {fn : Func} {u : World} {R : SH} {Post : Value → Hp → SH → Prop} {L' G : SH} (hp : Post v ρ L')
  (hr : ∀ a w, Ok x.D x.N E a → Sat x.u ρ L w → (results fn a.tmps).run x.P w = .ok v w := by
   first
   | exact res0 rfl
   | exact res1 rfl (ZW rfl)
   | exact res1 rfl (ZO rfl (by first | assumption | rfl))
   | exact res1 rfl (Zu rfl rfl)
   | exact res2 rfl (ZW rfl) (ZW rfl)
   | exact res2 rfl (ZW rfl) (ZO rfl (by first | assumption | rfl))
   | exact res2 rfl (ZW rfl) (Zu rfl rfl)
   | exact res2 rfl (ZO rfl (by first | assumption | rfl)) (ZW rfl)
   | exact res2 rfl (ZO rfl (by first | assumption | rfl)) (ZO rfl (by first | assumption | rfl))
   | exact res2 rfl (ZO rfl (by first | assumption | rfl)) (Zu rfl rfl)
   | exact res2 rfl (Zu rfl rfl) (ZW rfl)
   | exact res2 rfl (Zu rfl rfl) (ZO rfl (by first | assumption | rfl))
   | exact res2 rfl (Zu rfl rfl) (Zu rfl rfl)
   | exact WT rfl (ZW rfl) (ZW rfl) (ZW rfl)
   | exact WT rfl (ZW rfl) (ZW rfl) (ZO rfl (by first | assumption | rfl))
   | exact WT rfl (ZW rfl) (ZW rfl) (Zu rfl rfl)
   | exact WT rfl (ZW rfl) (ZO rfl (by first | assumption | rfl)) (ZW rfl)
   | exact WT rfl (ZW rfl) (ZO rfl (by first | assumption | rfl)) (ZO rfl (by first | assumption | rfl))
   | exact WT rfl (ZW rfl) (ZO rfl (by first | assumption | rfl)) (Zu rfl rfl)
   | exact WT rfl (ZW rfl) (Zu rfl rfl) (ZW rfl)
   | exact WT rfl (ZW rfl) (Zu rfl rfl) (ZO rfl (by first | assumption | rfl))
   | exact WT rfl (ZW rfl) (Zu rfl rfl) (Zu rfl rfl)
   | exact WT rfl (ZO rfl (by first | assumption | rfl)) (ZW rfl) (ZW rfl)
   | exact WT rfl (ZO rfl (by first | assumption | rfl)) (ZW rfl) (ZO rfl (by first | assumption | rfl))
   | exact WT rfl (ZO rfl (by first | assumption | rfl)) (ZW rfl) (Zu rfl rfl)
   | exact WT rfl (ZO rfl (by first | assumption | rfl)) (ZO rfl (by first | assumption | rfl)) (ZW rfl)
   | exact WT rfl (ZO rfl (by first | assumption | rfl)) (ZO rfl (by first | assumption | rfl)) (ZO rfl (by first | assumption | rfl))
   | exact WT rfl (ZO rfl (by first | assumption | rfl)) (ZO rfl (by first | assumption | rfl)) (Zu rfl rfl)
   | exact WT rfl (ZO rfl (by first | assumption | rfl)) (Zu rfl rfl) (ZW rfl)
   | exact WT rfl (ZO rfl (by first | assumption | rfl)) (Zu rfl rfl) (ZO rfl (by first | assumption | rfl))
   | exact WT rfl (ZO rfl (by first | assumption | rfl)) (Zu rfl rfl) (Zu rfl rfl)
   | exact WT rfl (Zu rfl rfl) (ZW rfl) (ZW rfl)
   | exact WT rfl (Zu rfl rfl) (ZW rfl) (ZO rfl (by first | assumption | rfl))
   | exact WT rfl (Zu rfl rfl) (ZW rfl) (Zu rfl rfl)
   | exact WT rfl (Zu rfl rfl) (ZO rfl (by first | assumption | rfl)) (ZW rfl)
   | exact WT rfl (Zu rfl rfl) (ZO rfl (by first | assumption | rfl)) (ZO rfl (by first | assumption | rfl))
   | exact WT rfl (Zu rfl rfl) (ZO rfl (by first | assumption | rfl)) (Zu rfl rfl)
   | exact WT rfl (Zu rfl rfl) (Zu rfl rfl) (ZW rfl)
   | exact WT rfl (Zu rfl rfl) (Zu rfl rfl) (ZO rfl (by first | assumption | rfl))
   | exact WT rfl (Zu rfl rfl) (Zu rfl rfl) (Zu rfl rfl))
  (hle : ρ0.le ρ := by first | assumption | exact Hp.le_refl _ | (refine Hp.le_trans ?_ (by assumption); assumption) | solve_by_elim (maxDepth := 6) [Hp.le_trans]) (k : Xd L L' G := by exact tk) (en : Ends G R := by infer_instance) (he : isEnd e = true := by rfl) (hD : x.D = [] := by rfl) (hu : x.u = u := by rfl) :
  TE x e (bodyPostM (Fw none) 0 x.P fn (RK u ρ0 R Post)) E ρ L := te_end he hD hu hr hle k en hp
end
theorem Xc {a b : Bool} (h : a = true ↔ b = true) : Value.bool a = Value.bool b := congrArg _ (Bool.eq_iff_iff.2 h)
class SetN (l : List Value) (off n : Nat) (vs : List Value) (l' : outParam (List Value)) : Prop where
 len : vs.length = n
 fit : off + n ≤ l.length
 out : stc l off vs = l'
instance SetN.nil {l : List Value} : SetN l 0 0 [] l := ⟨rfl, by simp, by simp [stc]⟩
instance SetN.cons {a v : Value} {r vs r' : List Value} {n : Nat} [h : SetN r 0 n vs r'] : SetN (a :: r) 0 (n + 1) (v :: vs) (v :: r') := ⟨by
 have := h.len; simp [this], by have := h.fit; simp at this ⊢; omega, by
 have := h.out
 simp only [stc, List.take_zero, List.nil_append, Nat.zero_add, List.length_cons, List.drop_succ_cons, List.cons_append] at this ⊢
 rw [this]⟩
instance SetN.drop {a : Value} {r vs r' : List Value} {o n : Nat} [h : SetN r o n vs r'] : SetN (a :: r) (o + 1) n vs (a :: r') := ⟨h.len, by
 have := h.fit; simp only [List.length_cons]; omega, by
 have := h.out
 simp only [stc, List.take_succ_cons, List.cons_append] at this ⊢
 rw [show o + 1 + vs.length = (o + vs.length) + 1 by omega, List.drop_succ_cons, this]⟩
class GetQ (pl : List (Nat × Nat)) (i : Nat) (off n : outParam Nat) : Prop where
 out : pl[i]? = some (off, n)
instance GetQ.zero {off n : Nat} {r : List (Nat × Nat)} : GetQ ((off, n) :: r) 0 off n := ⟨rfl⟩
instance GetQ.succ {p : Nat × Nat} {r : List (Nat × Nat)} {i off n : Nat} [h : GetQ r i off n] : GetQ (p :: r) (i + 1) off n := ⟨by simpa using h.out⟩
class CellsL (v : Value) (l : outParam (List Value)) : Prop where
 out : v.cells = ⟨l⟩
instance {l : List Value} : CellsL (.agg ⟨l⟩) l := ⟨rfl⟩
instance {k : IntKind} {n : Int} : CellsL (.int k n) [.int k n] := ⟨rfl⟩
instance {b : Bool} : CellsL (.bool b) [.bool b] := ⟨rfl⟩
instance {s : ByteArray} : CellsL (.string s) [.string s] := ⟨rfl⟩
instance {a : Option Addr} : CellsL (.pointer a) [.pointer a] := ⟨rfl⟩
instance {a : Option Addr} {n c : Nat} : CellsL (.slice a n c) [.slice a n c] := ⟨rfl⟩
instance {m : Option Nat} : CellsL (.map m) [.map m] := ⟨rfl⟩
class BuildM (pl : List (Nat × Nat)) (cells : List Value) (ps : List (Nat × Operand)) (vs : List Value) (out : outParam (List Value)) : Prop where
 out : Instr.fill (pl[·]?) ⟨cells⟩ ((ps.map (·.1)).zip vs) = some ⟨out⟩
instance BuildM.nil {pl : List (Nat × Nat)} {cells : List Value} : BuildM pl cells [] [] cells := ⟨rfl⟩
instance BuildM.cons {pl : List (Nat × Nat)} {cells cells' out : List Value} {i off n : Nat} {o : Operand} {ps : List (Nat × Operand)} {v : Value} {l vs : List Value} [h1 : GetQ pl i off n] [h0 : CellsL v l] [h2 : SetN cells off n l cells'] [h3 : BuildM pl cells' ps vs out] : BuildM pl cells ((i, o) :: ps) (v :: vs) out := ⟨by
 simp only [List.map_cons, List.zip_cons_cons]
 rw [fill_cons (pl := (pl[·]?)) h1.out h0.out h2.len h2.fit, h2.out]
 exact h3.out⟩
theorem Vk {x : Cx} {E : Env} {ρ : Hp} {L : SH} {ty : TypeId} {t : Nat} {pl : List (Nat × Nat)} {z out : List Value} {ps : List (Nat × Operand)} {vs : List Value} [hP : Zq x.P t (pl[·]?)] [hz : Zh x.P t (.agg ⟨z⟩)] (hv : evs E (ps.map (·.2)) = some vs) [hB : BuildM pl z ps vs out] :
  Yl x (.build t ⟨ps⟩) ty E ρ L (.agg ⟨out⟩) := Vj hv hB.out
theorem bq2 {a b c d : Int} : ((a == b) = (c == d)) ↔ (a = b ↔ c = d) := by
 rw [Bool.eq_iff_iff, beq_iff_eq, beq_iff_eq]
theorem bqt {a b : Int} : (true = (a == b)) ↔ a = b := by
 rw [eq_comm, beq_iff_eq]
theorem bqf {a b : Int} : (false = (a == b)) ↔ ¬ a = b := by
 rw [eq_comm, beq_eq_false_iff_ne]
end Go.Proofs.E
namespace Go.Proofs.E
open Go
set_option linter.unusedVariables false
set_option linter.unusedSimpArgs false
section
variable {x : Cx} {Q : Exit → Act → World → Prop} {E : Env} {ρ : Hp} {L : SH} {ops : Array Oper} {rest : List Oper} {ty : TypeId} {pos : String} {af : Array Edge}
theorem tl_eff {d b : Nat} {op : Op} {o o' : Obj} {v : Value} {f : Obj → SH} [hU : Upd b L o f]
  (hr : ∀ a w, Ok x.D x.N E a → Sat x.u ρ L w → w.heap[b]? = some o → (execOp a.eval ⟨some d, op, ty, pos, af, none⟩).run x.P w = .ok (.value v) (Vf w b o'))
  (hd : Nat.blt d x.N = true) (hn : XL op = true) (k : TL x ops rest Q ((d, v) :: E) ρ (f o')) : TL x ops (⟨some d, op, ty, pos, af, none⟩ :: rest) Q E ρ L := fun a w ha hw => by
 refine ZU rfl hn ?_
 obtain ⟨hw2, hb⟩ := hw.upd hU o'
 rw [hr a w ha hw hb]
 exact k _ _ (ha.put (Nat.le_of_ble_eq_true hd) _) hw2
theorem run_storeCells_stc {P : Program} {w : World} {b o : Nat} {T : TypeId} {l ys : List Value} (hb : w.heap[b]? = some (.cells ⟨l⟩ T (0, 0))) (hfit : o + ys.length ≤ l.length) (h1 : ys.all (·.oneCell') = true) :
  (storeCells ⟨b, o, none⟩ ys).run P w = .ok () (Vf w b (.cells ⟨stc l o ys⟩ T (0, 0))) := by
 have hst := run_storeCells_at P b o T ys 0 ⟨l⟩ w hb (by simpa using hfit) (fun c hc => List.all_eq_true.1 h1 c hc)
 rw [setRow_eq hb] at hst
 simp only [Nat.add_zero] at hst
 exact hst
theorem tl_copyN {d dT sT e sz b o dl dc b2 o2 sl sc : Nat} {T : TypeId} {dst src : Operand} {l ys : List Value} {f : Obj → SH} [hS : ZC x.P dT e] [hZ : Zo x.P e sz]
  (hdst : ev E dst = some (.slice (some ⟨b, o, none⟩) dl dc)) (hs : ev E src = some (.slice (some ⟨b2, o2, none⟩) sl sc)) [hU : Upd b L (.cells ⟨l⟩ T (0, 0)) f] (hsrc : Src x ρ L b2 o2 ys) (hlen : ys.length = min sl dl * sz)
  (h1 : ys.all (·.oneCell') = true) (hfit : o + ys.length ≤ l.length) (hd : Nat.blt d x.N = true)
  (k : TL x ops rest Q ((d, .int .i64 (min sl dl : Nat)) :: E) ρ (f (.cells ⟨stc l o ys⟩ T (0, 0)))) :
  TL x ops (⟨some d, .call { callee := .builtin .copy, args := #[dst, src], argTypes := #[dT, sT] }, ty, pos, af, none⟩ :: rest) Q E ρ L := by
 refine tl_eff (hU := hU) (o' := .cells ⟨stc l o ys⟩ T (0, 0)) (fun a w ha hw hb => ?_) hd rfl k
 obtain ⟨inf, g1, g2⟩ := hZ.out
 subst g2
 have hf := run_firstCells_some (P := x.P) w inf.size (min sl dl) ⟨b2, o2, none⟩ sl sc ys hlen (fun j v hj => by rw [Yt]; exact hsrc w hw j v hj)
 have hst := run_storeCells_stc (P := x.P) hb hfit h1
 have hr : (Builtin.copy_ #[dT, sT] ty #[.slice (some ⟨b, o, none⟩) dl dc, .slice (some ⟨b2, o2, none⟩) sl sc]).run x.P w = .ok (goInt (min sl dl : Nat)) (Vf w b (.cells ⟨stc l o ys⟩ T (0, 0))) := by
  have hm : Nat.min sl dl = min sl dl := rfl
  simp [Builtin.copy_, run_underlying hS.out, sizeOf, typeInfo, g1, Builtin.lenOf, hm, hf, hst]
 simp only [execOp, resolve, Sem.run_bind, Sem.run_pure, Result.andThen_ok, invoke, builtin]
 have hargs : Array.map a.eval #[dst, src] = #[.slice (some ⟨b, o, none⟩) dl dc, .slice (some ⟨b2, o2, none⟩) sl sc] := by simp [ha.eval hdst, ha.eval hs]
 rw [hargs, hr]
 rfl
theorem run_append_grow_zeros {P : Program} (w : World) (t tn ty e : TypeId) (i : TypeInfo) (z : Value) (k kn : IntKind) (ht : P.underlying t = some (.slice e)) (htn : P.underlying tn = some (.int kn)) (hi : P.info? e = some i) (hz : i.zero = some z)
  (b : Addr) (sLen sCap : Nat) (olds : List Value) (hlo : olds.length = sLen * i.size) (holds : ∀ j v, olds[j]? = some v → w.cell? (b.add j) = some v)
  (n : Nat) (h0 : 0 < n) (hs : 0 < i.size) (hg : sCap < sLen + n) (h63 : ((sLen + n : Nat) : Int) ≤ 9223372036854775807) (hfit : Builtin.nextslicecap (sLen + n) sCap * i.bytes ≤ 281474976710656) (h48 : n * i.bytes ≤ 281474976710656) :
  (Builtin.append_ #[t, tn] ty #[.slice (some b) sLen sCap, .int k n]).run P w =
   .ok (.slice (some ⟨w.heap.size, 0, none⟩) (sLen + n) (grownCap w (sLen + n) sCap e))
    (w.drew.alloc (.cells (olds.toArray ++ Builtin.zeroCells z.cells n ++ Builtin.zeroCells z.cells (grownCap w (sLen + n) sCap e - (sLen + n))) e)) := by
 have hn : ¬ (sLen + n ≤ sCap) := by omega
 have hw : IntKind.i64.wrap (n : Int) = n := by rw [IntKind.wrap_i64]; omega
 have h63' : ¬ (9223372036854775807 < ((sLen : Int) + (n : Int))) := by omega
 have h48' : ¬ (281474976710656 < Builtin.nextslicecap (sLen + n) sCap * i.bytes) := by omega
 have h48i : ¬ (281474976710656 < (n : Int) * (i.bytes : Int)) := by rw [← Int.natCast_mul]; omega
 have hneg : ¬ ((n : Int) < 0) := by omega
 have hns : ¬ (n * i.size = 0) := Nat.mul_ne_zero (by omega) (by omega)
 have hn0 : n ≠ 0 := by omega
 have hfo := run_firstCells_some (P := P) w.drew i.size sLen b sLen sCap olds hlo (by simpa using holds)
 simp [Builtin.append_, run_underlying ht, run_underlying htn, sizeOf, typeInfo, zeroValue, hi, hz, asInt, asIntOf, hw, hn, hn0, hneg, hns, h63', h48', h48i, Question.forced, hfo, newRow, grownCap]
theorem tl_appZ {d t tn e sz by' i n cap b : Nat} {s y : Operand} {k kn : IntKind} {z : Value} {olds : List Value} [hS : ZC x.P t e] [hN : YO x.P tn kn] [hZ : Zo x.P e sz] [hB : Zd x.P e by'] [hz : Zh x.P e z]
  (hs : ev E s = some (.slice (some ⟨b, 0, none⟩) i cap)) (hy : ev E y = some (.int k (n : Int))) (hsrc : Src x ρ L b 0 olds) (hlen : olds.length = i * sz) (h0 : 0 < n) (hsz : 0 < sz) (hzs : z.cells.toList.length = sz)
  (hg : cap < i + n) (hb : (i + n) * by' ≤ 140737488355328) (hm : i + n ≤ 9223372036854775807) (hd : Nat.blt d x.N = true)
  (kk : ∀ b' c' ws, i + n ≤ c' → ws.length = (c' - i) * sz → TL x ops rest Q ((d, .slice (some ⟨b', 0, none⟩) (i + n) c') :: E) ρ ([(b', .cells ⟨olds ++ ws⟩ e (0, 0))] :: L)) :
  TL x ops (⟨some d, .call { callee := .builtin .append, args := #[s, y], argTypes := #[t, tn] }, ty, pos, af, none⟩ :: rest) Q E ρ L := fun a w ha hw => by
 refine ZU rfl rfl ?_
 obtain ⟨inf, g1, g2⟩ := hZ.out
 obtain ⟨i2, g3, g4⟩ := hB.out
 obtain ⟨i3, g5, g6⟩ := hz.out
 rw [g1] at g3 g5
 cases g3; cases g5
 subst g2; subst g4
 have hzs' : z.cells.size = inf.size := by simpa using hzs
 have hbn : n * inf.bytes ≤ 140737488355328 := Nat.le_trans (Nat.mul_le_mul_right _ (by omega)) hb
 have hr := run_append_grow_zeros (P := x.P) w t tn ty e inf z k kn hS.out hN.out g1 g6 ⟨b, 0, none⟩ i cap olds hlen (fun j v hj => by rw [Yt]; exact hsrc w hw j v hj) n h0 hsz hg (by omega) (growslice_fits (by omega) hb) (by omega)
 have he : (execOp a.eval ⟨some d, .call { callee := .builtin .append, args := #[s, y], argTypes := #[t, tn] }, ty, pos, af, none⟩).run x.P w = .ok (.value (.slice (some ⟨w.heap.size, 0, none⟩) (i + n) (grownCap w (i + n) cap e)))
   (w.drew.alloc (.cells (olds.toArray ++ Builtin.zeroCells z.cells n ++ Builtin.zeroCells z.cells (grownCap w (i + n) cap e - (i + n))) e)) := by
  simp only [execOp, resolve, Sem.run_bind, Sem.run_pure, Result.andThen_ok, invoke, builtin]
  have hargs : Array.map a.eval #[s, y] = #[.slice (some ⟨b, 0, none⟩) i cap, .int k n] := by simp [ha.eval hs, ha.eval hy]
  rw [hargs, hr]
  rfl
 rw [he]
 have hgc : i + n ≤ grownCap w (i + n) cap e := by simp only [grownCap, Question.cut]; omega
 have hzl : ∀ c, (Builtin.zeroCells z.cells c).toList.length = c * inf.size := fun c => by
  have := size_zeroCells z.cells c
  rw [hzs'] at this; simpa using this
 have hs2 := (hw.drew).new (.cells (olds.toArray ++ Builtin.zeroCells z.cells n ++ Builtin.zeroCells z.cells (grownCap w (i + n) cap e - (i + n))) e (0, 0))
 refine kk w.heap.size (grownCap w (i + n) cap e) ((Builtin.zeroCells z.cells n).toList ++ (Builtin.zeroCells z.cells (grownCap w (i + n) cap e - (i + n))).toList) hgc ?_ _ _ (ha.put (Nat.le_of_ble_eq_true hd) _) ?_
 ·rw [List.length_append, hzl, hzl, ← Nat.add_mul]
  congr 1; omega
 ·have : (⟨olds ++ ((Builtin.zeroCells z.cells n).toList ++ (Builtin.zeroCells z.cells (grownCap w (i + n) cap e - (i + n))).toList)⟩ : Array Value) = olds.toArray ++ Builtin.zeroCells z.cells n ++ Builtin.zeroCells z.cells (grownCap w (i + n) cap e - (i + n)) := by
   apply Array.ext'; simp
  rw [this]
  exact hs2
theorem tl_overlaps {d f t e sz b o la ca b2 o2 lb cb : Nat} {s y : Operand} {ats : Array TypeId} {fn : Func} {l l2 : List Value} {T T2 tR : TypeId} (hs : ev E s = some (.slice (some ⟨b, o, none⟩) la ca)) (hy : ev E y = some (.slice (some ⟨b2, o2, none⟩) lb cb))
  [hS : ZC x.P t e] [hZ : Zo x.P e sz] [hF : Find b L (.cells ⟨l⟩ T (0, 0))] [hF2 : Find b2 L (.cells ⟨l2⟩ T2 (0, 0))] (hlen : l.length ≠ l2.length) (hl2 : l2 ≠ [])
  (hf : x.P.funcs[f]? = some fn) (hn : (fn.name == "runtime.NumGoroutine") = false) (hb : fn.body.isNone = true) (hx : Extern.findNext fn = none) (he : Extern.find fn = some (Extern.SlicesOverlaps.overlaps #[t, t] #[tR])) (hd : Nat.blt d x.N = true)
  (k : TL x ops rest Q ((d, .bool false) :: E) ρ L) :
  TL x ops (⟨some d, .call { callee := .value (.func f), args := #[s, y], argTypes := ats }, ty, pos, af, none⟩ :: rest) Q E ρ L := fun a w ha hw => by
 refine ZU rfl rfl ?_
 have h1 := hw.find hF
 have h2 := hw.find hF2
 have hne : b ≠ b2 := fun e => by
  subst e
  rw [h1] at h2
  have := (Obj.cells.inj (Option.some.inj h2)).1
  exact hlen (by rw [Array.mk.inj this])
 obtain ⟨inf, g1, g2⟩ := hZ.out
 have hov := Go.Lib.run_overlaps_apart (P := x.P) w t tR e hS.out sz (fun w => by simp [sizeOf, typeInfo, g1, g2]) ⟨b, o, none⟩ ⟨b2, o2, none⟩ la ca lb cb hne T T2 l.length l2.length
  (by simp [World.shape?, h1]) (by simp [World.shape?, h2]) (by simpa using hl2) (by simp [World.frozen?, h1]) (by simp [World.frozen?, h1])
 have hcall := run_callFunc_extern hf hn hb hx he #[.slice (some ⟨b, o, none⟩) la ca, .slice (some ⟨b2, o2, none⟩) lb cb] w
 rw [hov] at hcall
 simp only [Result.andThen] at hcall
 have hargs : Array.map a.eval #[s, y] = #[.slice (some ⟨b, o, none⟩) la ca, .slice (some ⟨b2, o2, none⟩) lb cb] := by simp [ha.eval hs, ha.eval hy]
 have hexec : (execOp a.eval ⟨some d, .call { callee := .value (.func f), args := #[s, y], argTypes := ats }, ty, pos, af, none⟩).run x.P w = .ok (.value (.bool false)) w := by
  simp only [execOp, resolve, hargs, Act.eval, Deferred.ofValue, Sem.run_bind, Sem.run_pure, Result.andThen_ok, invoke]
  simpa using hcall
 rw [hexec]
 exact k _ _ (ha.put (Nat.le_of_ble_eq_true hd) _) hw
theorem flatN_len {α : Type} {g : α → List Value} {sz : Nat} (hg : ∀ x, (g x).length = sz) (l : List α) : ((l.map g).flatten).length = l.length * sz := by
 induction l with
 | nil => simp
 | cons a r ih => simp only [List.map_cons, List.flatten_cons, List.length_append, List.length_cons, hg, ih, Nat.add_mul]; omega
theorem flatN_take {α : Type} {g : α → List Value} {sz : Nat} (hg : ∀ x, (g x).length = sz) : ∀ (l : List α) (k : Nat), ((l.map g).flatten).take (k * sz) = ((l.take k).map g).flatten
 | [], k => by simp
 | a :: r, 0 => by simp
 | a :: r, k + 1 => by
  simp only [List.map_cons, List.flatten_cons, List.take_succ_cons]
  rw [List.take_append, hg, List.take_of_length_le (by rw [hg, Nat.add_mul]; omega), show (k + 1) * sz - sz = k * sz by rw [Nat.add_mul]; omega, flatN_take hg r k]
theorem flatN_drop {α : Type} {g : α → List Value} {sz : Nat} (hg : ∀ x, (g x).length = sz) : ∀ (l : List α) (k : Nat), ((l.map g).flatten).drop (k * sz) = ((l.drop k).map g).flatten
 | [], k => by simp
 | a :: r, 0 => by simp
 | a :: r, k + 1 => by
  simp only [List.map_cons, List.flatten_cons, List.drop_succ_cons]
  rw [List.drop_append, hg, List.drop_of_length_le (by rw [hg, Nat.add_mul]; omega), show (k + 1) * sz - sz = k * sz by rw [Nat.add_mul]; omega, flatN_drop hg r k, List.nil_append]
theorem stcN_mid {A B B' C : List Value} (h : B'.length = B.length) : stc (A ++ (B ++ C)) A.length B' = A ++ (B' ++ C) := by
 unfold stc
 rw [List.take_left' rfl, h, List.append_assoc]
 congr 2
 rw [← List.append_assoc, List.drop_left' (by simp)]
end
end Go.Proofs.E
namespace Go.Proofs.E
open Go
set_option linter.unusedVariables false
theorem Spec.thaw {P : Program} {f : FuncId} {args : List Value} {ρ : Hp} {C L : SH} {Post : Value → SH → Prop} (h : ∀ ρ1, ρ.le ρ1 → (∀ p ∈ C.flatten, ρ1 p.1 = some p.2) → Spec P f args ρ1 L (fun v ρ' L' => ρ' = ρ1 ∧ Post v L')) :
  Spec P f args ρ (C ++ L) (fun v ρ' L' => ρ' = ρ ∧ ∃ L2, Post v L2 ∧ L' = C ++ L2) := fun u R w hw => by
 have hw1 : Sat u ρ (C.flatten :: (L ++ R)) w := hw.perm (by simp)
 obtain ⟨h1, hle, hf⟩ := hw1.freeze
 have hap : ∀ p ∈ C.flatten, ρ p.1 = none := fun p hp => hw1.apart p (by simp only [List.flatten_cons, List.mem_append]; exact .inl hp)
 have hnd := hw1.nodup
 simp only [List.flatten_cons, List.map_append, List.nodup_append] at hnd
 refine (h _ hle hf u R w h1).mono ?_
 rintro e w' ⟨v, ρ', L', h2, h3, h4, rfl, h5⟩
 refine ⟨v, ρ, C ++ L', h2, Hp.le_refl _, ?_, rfl, L', h5, rfl⟩
 have hne : ∀ p ∈ (L' ++ R).flatten, ∀ q ∈ C.flatten, p.1 ≠ q.1 := fun p hp q hq e => by
  have a1 := h4.apart p hp
  rw [e, hf q hq] at a1
  cases a1
 have key : Sat u ρ (C.flatten :: (L' ++ R)) w' := by
  refine ⟨h4.os, h4.tape, h4.output, ?_, ?_, ?_, fun b o hb => h4.imm b o (hle b o hb)⟩
  ·simp only [List.flatten_cons, List.map_append, List.nodup_append]
   refine ⟨hnd.1, ?_, ?_⟩
   ·have := h4.nodup
    simpa [List.nodup_append] using this
   ·intro a ha b hb e
    obtain ⟨q, hq, rfl⟩ := List.mem_map.1 ha
    obtain ⟨p, hp, rfl⟩ := List.mem_map.1 (by simpa using hb : b ∈ List.map Prod.fst (L' ++ R).flatten)
    exact hne p hp q hq e.symm
  ·intro p hp
   simp only [List.flatten_cons, List.mem_append] at hp
   rcases hp with hp | hp
   ·exact h4.imm _ _ (hf p hp)
   ·exact h4.here p (by simpa using hp)
  ·intro p hp
   simp only [List.flatten_cons, List.mem_append] at hp
   rcases hp with hp | hp
   ·exact hap p hp
   ·have a1 := h4.apart p (by simpa using hp)
    cases hx : ρ p.1 with
    | none => rfl
    | some o => rw [hle _ _ hx] at a1; cases a1
 exact key.perm (by simp)
end Go.Proofs.E
namespace Go.Proofs.E
open Go Go.Lib
set_option linter.unusedVariables false
set_option linter.unusedSimpArgs false
set_option linter.unusedSectionVars false
section
variable {x : Cx} {Q : Exit → Act → World → Prop} {E : Env} {ρ : Hp} {L L1 : SH} {ops : Array Oper} {rest : List Oper} {ty : TypeId} {pos : String} {af : Array Edge}
theorem GetL.get {l : List Value} {d : Nat} {v : Value} (h : GetL l d v) : l[d]? = some v := h.out
theorem stc_midP {P l S l' : List Value} {o d : Nat} {vs : List Value} (hP : P.length = o) (hd : d + vs.length ≤ l.length) (h : stc l d vs = l') : stc (P ++ (l ++ S)) (o + d) vs = P ++ (l' ++ S) := by
 subst h
 unfold stc
 subst hP
 rw [List.take_append, List.take_of_length_le (by omega), Nat.add_sub_cancel_left, List.take_append_of_le_length (by omega), Nat.add_assoc, List.drop_append, List.drop_of_length_le (show P.length ≤ P.length + (d + vs.length) by omega), Nat.add_sub_cancel_left, List.drop_append_of_le_length hd]
 simp only [List.nil_append, List.append_assoc]
theorem tl_store_midA {t b o n : Nat} {q p : Operand} {P l vs S : List Value} {T : TypeId} {f : Obj → SH} (ho : ev E q = some (.pointer (some ⟨b, o, none⟩))) (hp : ev E p = some (.agg ⟨vs⟩)) (hP : P.length = o) (hl : l.length = n) (hn : vs.length = n) (h1 : vs.all (·.oneCell') = true) [hZ : Zo x.P t n] [hU : Upd b L (.cells ⟨P ++ (l ++ S)⟩ T (0, 0)) f]
  (k : TL x ops rest Q E ρ (f (.cells ⟨P ++ (vs ++ S)⟩ T (0, 0)))) :
  TL x ops (⟨none, .store t q p, ty, pos, af, none⟩ :: rest) Q E ρ L := by
 refine tl_store_a ho hp hn h1 (ble_le (by simp only [List.length_append]; omega)) ?_
 have := stc_midP (P := P) (l := l) (S := S) (o := o) (d := 0) (vs := vs) (l' := vs) hP (by omega) (by simp [stc, hn, ← hl])
 rw [Nat.add_zero] at this
 rw [this]
 exact k
theorem TE.perm {e : Exit} {L' : SH} (h : TE x e Q E ρ L') (hL : L.flatten.Perm L'.flatten) : TE x e Q E ρ L := fun a w ha hw => h a w ha (hw.perm hL)
theorem TE.sub {e : Exit} {L' : SH} (h : TE x e Q E ρ L') (hL : List.Sublist L'.flatten L.flatten) : TE x e Q E ρ L := fun a w ha hw => h a w ha (hw.sub hL)
theorem TC.sub {c : Code} {L' : SH} (h : TC x c Q E ρ L') (hL : List.Sublist L'.flatten L.flatten) : TC x c Q E ρ L := fun a w ha hw => h a w ha (hw.sub hL)
theorem TL.sub {l : List Oper} {L' : SH} (h : TL x ops l Q E ρ L') (hL : List.Sublist L'.flatten L.flatten) : TL x ops l Q E ρ L := fun a w ha hw => h a w ha (hw.sub hL)
end
theorem Hp.up {ρ ρ' : Hp} (h : ρ.le ρ') {b : Nat} {o : Obj} (hb : ρ b = some o) : ρ' b = some o := h _ _ hb
section
variable {x : Cx} {Q : Exit → Act → World → Prop} {E : Env} {ρ : Hp} {L : SH} {ops : Array Oper} {rest : List Oper} {ty : TypeId} {pos : String} {af : Array Edge}
end
theorem Spec.freeze {P : Program} {f : FuncId} {args : List Value} {ρ : Hp} {L : SH} {Post : Value → Hp → SH → Prop} {Post2 : Value → Hp → Prop} (h : Spec P f args ρ L Post)
  (k : ∀ v ρ' L', ρ.le ρ' → Post v ρ' L' → ∀ ρ2, ρ'.le ρ2 → (∀ p ∈ L'.flatten, ρ2 p.1 = some p.2) → Post2 v ρ2) : Spec P f args ρ L (fun v ρ2 L2 => Post2 v ρ2 ∧ L2 = []) := fun u R w hw => by
 refine (h u R w hw).mono ?_
 rintro e w' ⟨v, ρ', L', h2, h3, h4, h5⟩
 have h6 : Sat u ρ' (L'.flatten :: R) w' := h4.perm (by simp)
 obtain ⟨h7, hle, hf⟩ := h6.freeze
 exact ⟨v, _, [], h2, Hp.le_trans h3 hle, h7, k v ρ' L' h3 h5 _ hle hf, rfl⟩
section
variable {x : Cx} {Q : Exit → Act → World → Prop} {E : Env} {ρ : Hp} {L L1 L2 : SH} {ops : Array Oper} {l : List Oper} {c d : List (Nat × Obj)} {e : Exit} {y : Code}
end
instance (priority := 1100) eqC_four {P : Program} {m t e : Nat} {k : IntKind} [hA : WM P t 4 e] [hE : YO P e k] [hS : TyS P e] {a b c d a' b' c' d' : Int} :
  EqC P (m + 2) t (.agg ⟨[.int k a, .int k b, .int k c, .int k d]⟩) (.agg ⟨[.int k a', .int k b', .int k c', .int k d']⟩) (decide (a = a' ∧ b = b' ∧ c = c' ∧ d = d')) := ⟨fun dd w hdd => by
 obtain ⟨dd, rfl⟩ : ∃ d', dd = d' + 2 := ⟨dd - 2, by omega⟩
 obtain ⟨ds, i, g1, g2, g3, g4⟩ := hS.out
 have hag : ∀ w, (isAgg e).run P w = .ok false w := fun w => by
  simp only [isAgg, underlying, Sem.run_bind, run_program, Result.andThen_ok, g1, Sem.run_pure]
  cases ds <;> simp_all
 have hcl : P.cellsOf e = 1 := by simp [Program.cellsOf, g3, g4]
 have hp : ∀ (x : Array Value) (j : Nat) (v : Value) (w : World), x[j]? = some v → (part e x j).run P w = .ok v w := fun x j v w h => by
  simp [part, hag, h]
 have hr := fun (x y : Int) (w : World) => run_equalIn_int (P := P) w dd e k k x y hE.out
 rw [run_equalIn_array w (dd + 1) _ _ hA.out g3, show List.range 4 = [0, 1, 2, 3] from rfl]
 have q0 := fun w => hp ⟨[.int k a, .int k b, .int k c, .int k d]⟩ 0 (.int k a) w rfl
 have q1 := fun w => hp ⟨[.int k a, .int k b, .int k c, .int k d]⟩ 1 (.int k b) w rfl
 have q2 := fun w => hp ⟨[.int k a, .int k b, .int k c, .int k d]⟩ 2 (.int k c) w rfl
 have q3 := fun w => hp ⟨[.int k a, .int k b, .int k c, .int k d]⟩ 3 (.int k d) w rfl
 have p0 := fun w => hp ⟨[.int k a', .int k b', .int k c', .int k d']⟩ 0 (.int k a') w rfl
 have p1 := fun w => hp ⟨[.int k a', .int k b', .int k c', .int k d']⟩ 1 (.int k b') w rfl
 have p2 := fun w => hp ⟨[.int k a', .int k b', .int k c', .int k d']⟩ 2 (.int k c') w rfl
 have p3 := fun w => hp ⟨[.int k a', .int k b', .int k c', .int k d']⟩ 3 (.int k d') w rfl
 simp only [Op.eqItems, Sem.run_bind, hcl, Nat.mul_one, q0, p0, q1, p1, q2, p2, q3, p3, Result.andThen_ok, hr]
 cases h0 : (a == a') <;> cases h1 : (b == b') <;> cases h2 : (c == c') <;> cases h3 : (d == d') <;> simp only [h0, h1, h2, h3, Bool.not_true, Bool.not_false, if_true, if_false, Bool.false_eq_true, Sem.run_bind, Sem.run_pure, q1, p1, q2, p2, q3, p3, hr, Result.andThen_ok, Op.eqItems]
 all_goals (congr 1; simp only [beq_iff_eq, beq_eq_false_iff_ne] at h0 h1 h2 h3; simp [h0, h1, h2, h3])⟩
end Go.Proofs.E
namespace Go.Proofs.E
open Go
set_option linter.unusedVariables false
set_option linter.unusedSimpArgs false
attribute [local irreducible] Yl TL TC TE Spec ZK R1 Hp.le EnvLe TS TR YS Zp
theorem zW {G P : Prop} (k : G) (h : G → P := by
   intro k
   first
   | (refine i_op ?_; first | (refine i_qq ?_; exact qQ k) | exact Yj k)
   | exact Zi k
   | (refine i_tc ?_; exact qTc k)
   | (refine i_te ?_; exact qTe k)) : P := h k
theorem zV {G P : Prop} (k : G) (h : G → P := by
   intro k
   first
   | (refine iBu ?_; exact tl_y (Vk rfl) rfl rfl k)
   | (refine i_op ?_; first | (refine i_qq ?_; exact qQ k) | exact Yj k)
   | exact Zi k
   | (refine i_tc ?_; exact qTc k)
   | (refine i_te ?_; exact qTe k)) : P := h k
end Go.Proofs.E
namespace Go.Proofs.E
open Go
set_option linter.unusedVariables false
set_option linter.unusedSimpArgs false
def UKeys (es : List MapEntry) : Prop := es.Pairwise (fun a b => a.key ≠ b.key)
theorem mget_none {es : List MapEntry} {k : Int} : YC es k = none ↔ ∀ e ∈ es, ∀ kk, e.key ≠ .int kk k := by
 unfold YC
 rw [Option.map_eq_none_iff, List.find?_eq_none]
 constructor
 ·intro h e he kk hk
  have := h e he
  rw [hk] at this
  simp at this
 ·intro h e he hc
  cases hk : e.key <;> rw [hk] at hc <;> simp at hc
  subst hc
  exact h e he _ hk
theorem UKeys.add {es : List MapEntry} {x : MapEntry} (h : UKeys es) (hx : ∀ e ∈ es, ¬ e.key = x.key) : UKeys (es ++ [x]) := by
 unfold UKeys
 rw [List.pairwise_append]
 exact ⟨h, List.pairwise_singleton _ _, fun a ha b hb => by rw [List.mem_singleton.1 hb]; exact hx a ha⟩
theorem UKeys.mod {kk : IntKind} {k : Int} {v : Value} {pre post : List MapEntry} {e : MapEntry} (h : UKeys (pre ++ e :: post)) (hk : e.key = .int kk k) : UKeys (pre ++ { e with key := .int kk k, val := v } :: post) := by
 unfold UKeys at h ⊢
 rw [List.pairwise_append, List.pairwise_cons] at h ⊢
 obtain ⟨h1, ⟨h2, h3⟩, h4⟩ := h
 refine ⟨h1, ⟨fun b hb => by rw [← hk]; exact h2 b hb, h3⟩, fun a ha b hb => ?_⟩
 rcases List.mem_cons.1 hb with rfl | hb
 ·show a.key ≠ .int kk k
  rw [← hk]; exact h4 a ha e (by simp)
 ·exact h4 a ha b (by simp [hb])
section
variable {x : Cx} {Q : Exit → Act → World → Prop} {E : Env} {ρ ρ0 : Hp} {L : SH} {ops : Array Oper} {rest : List Oper} {ty : TypeId} {pos : String} {af : Array Edge}
theorem run_mapUpdate_u {P : Program} {t kt e : TypeId} {kk : IntKind} (hM : WV P t kt e) (hK : YO P kt kk) {w : World} {b : Nat} {es : List MapEntry} {ck : Nat}
  (hb : w.heap[b]? = some (.map ⟨es⟩ ck)) (hes : Yq kk es) (hu : UKeys es) (k : Int) (v : Value) :
  ∃ es' ck', (Instr.mapUpdate t (.map (some b)) (.int kk k) v).run P w = .ok () (Vf w b (.map ⟨es'⟩ ck')) ∧ Yq kk es' ∧ UKeys es' ∧ ∀ j, YC es' j = if j = k then some v else YC es j := by
 have hck := fun e => run_checkKey_int hK e k w
 have hfk : (Instr.findKey kt (.int kk k) es).run P w = .ok ((Instr.findNow (.int kk) (.int kk k) es 0).getD none) w ∧ True := by
  refine ⟨?_, trivial⟩
  simp only [Instr.findKey, Sem.run_bind, underlying, run_program, Result.andThen_ok, hK.out, Sem.run_pure]
  rcases Wh (k := k) es 0 hes with ⟨h1, h2⟩ | ⟨pre, e', post, h0, h1, h2, h3, h4⟩
  ·simp [h2]
  ·simp [h4]
 rcases Wh (k := k) es 0 hes with ⟨h1, h2⟩ | ⟨pre, e', post, rfl, h1, h2, h3, h4⟩
 ·rw [h2] at hfk
  refine ⟨es ++ [{ key := .int kk k, val := v, born := ck }], ck + 1, ?_, ?_, hu.add (fun e he hk => ?_), ?_⟩
  rotate_left 2
  ·exact (mget_none.1 h1) e he kk hk
  rotate_right 2
  ·simp [Instr.mapUpdate, underlying, hM.out, MapKept.run_getObj_map hb, hck, hfk.1, MapKept.run_setObj_map _ hb, Vf]
  ·intro e he
   rcases List.mem_append.1 he with he | he
   ·exact hes e he
   ·simp only [List.mem_singleton] at he; subst he; exact ⟨k, rfl⟩
  ·intro j
   rw [WQ]
   by_cases hj : j = k
   ·subst hj; rw [h1]; simp [YC]
   ·rw [if_neg hj]
    have : YC [({ key := .int kk k, val := v, born := ck } : MapEntry)] j = none := by
     have : (k == j) = false := by simpa using fun e : k = j => hj e.symm
     simp [YC, this]
    rw [this]; simp
 ·rw [h4] at hfk
  have hstay : (Instr.keyThatStays (.int kk k) (.int kk k)).run P w = .ok (.int kk k) w := by
   have : Instr.sameBits 10000 (.int kk k) (.int kk k) = true := by simp [Instr.sameBits]
   simp [Instr.keyThatStays, this]
  refine ⟨pre ++ { e' with key := .int kk k, val := v } :: post, ck, ?_, ?_, UKeys.mod hu h1, ?_⟩
  ·have hmod : (Array.mk (pre ++ e' :: post)).modify pre.length (fun e => { e with key := .int kk k, val := v }) = ⟨pre ++ { e' with key := .int kk k, val := v } :: post⟩ := by
    apply Array.ext_getElem?
    intro i
    rw [Array.getElem?_modify]
    simp only [List.getElem?_toArray]
    rcases Nat.lt_trichotomy i pre.length with hi | hi | hi
    ·rw [if_neg (by omega), List.getElem?_append_left hi, List.getElem?_append_left hi]
    ·subst hi; simp
    ·rw [if_neg (by omega), List.getElem?_append_right (by omega), List.getElem?_append_right (by omega)]
     have : i - pre.length = (i - pre.length - 1) + 1 := by omega
     rw [this]; simp
   have hmod' := congrArg Array.toList hmod
   simp only [Array.toList_modify] at hmod'
   simp [Instr.mapUpdate, underlying, hM.out, MapKept.run_getObj_map hb, hck, hfk.1, MapKept.run_setObj_map _ hb, Vf, h1, hstay, hmod']
  ·intro e he
   rcases List.mem_append.1 he with he | he
   ·exact hes e (by simp [he])
   ·rcases List.mem_cons.1 he with rfl | he
    ·exact ⟨k, rfl⟩
    ·exact hes e (by simp [he])
  ·intro j
   rw [WQ, WQ]
   by_cases hj : j = k
   ·subst hj; rw [h2]; simp [YC]
   ·rw [if_neg hj]
    have hkj : (k == j) = false := by simpa using fun e : k = j => hj e.symm
    congr 1
    simp [YC, List.find?_cons, h1, hkj]
theorem WG {m i p : Operand} {t kt e b : Nat} {kk : IntKind} {es : List MapEntry} {ck : Nat} {k : Int} {v : Value} {f : Obj → SH} (hm : ev E m = some (.map (some b))) (hi : ev E i = some (.int kk k)) (hp : ev E p = some v)
  [hM : WV x.P t kt e] [hK : YO x.P kt kk] [hU : Upd b L (.map ⟨es⟩ ck) f] (hes : Yq kk es) (hu : UKeys es)
  (kk' : ∀ es' ck', Yq kk es' → UKeys es' → (∀ j, YC es' j = if j = k then some v else YC es j) → TL x ops rest Q E ρ (f (.map ⟨es'⟩ ck'))) :
  TL x ops (⟨none, .mapUpdate t m i p, ty, pos, af, none⟩ :: rest) Q E ρ L := fun a w ha hw => by
 refine ZU rfl rfl ?_
 obtain ⟨es', ck', hrun, h1, h2, h3⟩ := run_mapUpdate_u hM hK (hw.upd hU (.map ⟨es⟩ ck)).2 hes hu k v
 have hs := (hw.upd hU (.map ⟨es'⟩ ck')).1
 have : (execOp a.eval ⟨none, .mapUpdate t m i p, ty, pos, af, none⟩).run x.P w = .ok .skip (Vf w b (.map ⟨es'⟩ ck')) := by
  simp only [execOp, ha.eval hm, ha.eval hi, ha.eval hp, Sem.run_bind, hrun, Result.andThen_ok, Sem.run_pure]
 rw [this]
 exact kk' es' ck' h1 h2 h3 _ _ (ha.put_none undef) hs
end
def IterP (P : Program) (g : FuncId) (fs cs : List Value) {α : Type} (enc : α → List Value) (ρ0 : Hp) (S : SH) (C : List (Nat × Obj)) (xs : List α) : Prop :=
 ∀ (l : Nat) (J : List α → Hp → SH → Prop) (Jx : Hp → SH → Prop), (∀ ρ Lj, J [] ρ Lj → ∃ A B, Lj = A ++ C :: B) →
  (∀ pre y ρ Lj, (pre ++ [y]) <+: xs → ρ0.le ρ → J pre ρ Lj → ZK P l (enc y) ρ (S ++ Lj) (YP S (J (pre ++ [y])) Jx)) →
  ∀ ρ Lj, ρ0.le ρ → J [] ρ Lj → Spec P g (fs ++ [.func (.yield l) ⟨[]⟩ ⟨[]⟩] ++ cs) ρ (S ++ Lj) (fun v ρ' L' => ∃ Lj', L' = S ++ Lj' ∧ (J xs ρ' Lj' ∨ Jx ρ' Lj'))
section
variable {x : Cx} {Q : Exit → Act → World → Prop} {E : Env} {ρ ρ0 : Hp} {L : SH} {l : Nat} {r : Loop}
theorem tc_rangeFuncP {fo : Operand} {ps : List Nat} {assign body : Code} {g : Nat} {fs cs : List Value} {α : Type} {enc : α → List Value} {S L0 R0 R : SH} {xs : List α} {C : List (Nat × Obj)} (hro : x.ro = none)
  (hf : ev E fo = some (.func (.func g) ⟨fs⟩ ⟨cs⟩)) [hF : ZJ x.P g] (hI : IterP x.P g fs cs enc ρ0 S C xs) (hle : ρ0.le ρ) (hps : ∀ y, (enc y).length = ps.length) (hpN : ps.all (fun p => Nat.blt p x.N) = true)
  (J : List α → Hp → SH → Prop) (Jx : Code → Hp → SH → Prop) (k1 : Xd L S R0) (k2 : Xd R0 L0 R) (h0 : J [] ρ L0) (hC : ∀ ρ Lu, J [] ρ Lu → ∃ A B, Lu = A ++ C :: B)
  (hround : ∀ l tm r pre y ρ' Lu u R', (pre ++ [y]) <+: xs → ρ0.le ρ' → J pre ρ' Lu → r.state = .ready → Rec tm ⟨ps⟩ assign body r →
   TC ⟨some l, x.P, u, [], x.N⟩ assign (Exit.then (KB x.P l body (RQ x.P u ρ' R' l (YP S (JH l (Rec tm ⟨ps⟩ assign body) (J (pre ++ [y]))) (XH l (Rec tm ⟨ps⟩ assign body) Jx)))) QF)
    (envP ps (enc y) E) ρ' ([(l, .loop r)] :: (S ++ (Lu ++ R'))))
  (hdone : ∀ D0 ρ' Lu, ρ.le ρ' → J xs ρ' Lu → TE { x with D := [{ target := .collected D0, args := #[] }] ++ x.D } .normal Q E ρ' ([(D0, .deferred (some []))] :: (S ++ (Lu ++ R))))
  (hstop : ∀ D0 c ρ' Lu, ρ.le ρ' → Jx c ρ' Lu → TC { x with D := [{ target := .collected D0, args := #[] }] ++ x.D } c Q E ρ' ([(D0, .deferred (some []))] :: (S ++ (Lu ++ R)))) :
  TC x (.rangeFunc fo ⟨ps⟩ assign body) Q E ρ L := fun a w ha hw => by
 obtain ⟨ro, P, u, D, N⟩ := x
 simp only at hro; subst hro
 dsimp only at *
 refine wpIn_rangeFunc fun fn _ => ?_
 have hw0 : Sat u ρ (S ++ (L0 ++ R)) w := hw.perm (by
  refine k1.out.trans ?_
  simp only [List.flatten_append]
  exact List.Perm.append_left _ (by simpa using k2.out))
 have hw1 := hw0.new (.deferred (some []))
 generalize hr0 : ({ state := .ready, pending := none, fn, tmps := a.tmps, params := ⟨ps⟩, assign, body, defers := w.heap.size } : Loop) = r0
 have hw2 := hw1.new (.loop r0)
 have hsz : ({ w with heap := w.heap.push (.deferred (some [])) } : World).heap.size = w.heap.size + 1 := by simp
 rw [hsz] at hw2
 have hrec0 : Rec a.tmps ⟨ps⟩ assign body r0 := by subst hr0; exact ⟨rfl, rfl, rfl, rfl⟩
 have hst0 : r0.state = .ready ∧ r0.pending = none := by subst hr0; exact ⟨rfl, rfl⟩
 have henter := run_enterLoop_outer (P := P) (w := w) fn a.tmps ⟨ps⟩ assign body
 rw [hr0] at henter
 have hres : (resolve a.eval (rangeCall fo (w.heap.size + 1)) 0).run P ((w.alloc (.deferred (some []))).alloc (.loop r0)) =
   .ok { target := .fn (.func g) ⟨cs⟩, args := ⟨fs ++ [.func (.yield (w.heap.size + 1)) ⟨[]⟩ ⟨[]⟩]⟩ } ((w.alloc (.deferred (some []))).alloc (.loop r0)) := by
  simp only [resolve, ha.eval hf, Deferred.ofValue, Sem.run_pure]
  simp [Act.eval]
 refine ⟨w.heap.size + 1, _, _, _, _, g, ⟨fs ++ [.func (.yield (w.heap.size + 1)) ⟨[]⟩ ⟨[]⟩] ++ cs⟩, (w.alloc (.deferred (some []))).alloc (.loop r0), henter, hres, fun _ _ => trivial, ?_, fun h => by simp [Fw, Fence.wide] at h, ?_⟩
 ·simp only [invoke]
  have := run_callFunc hF (⟨fs ++ [.func (.yield (w.heap.size + 1)) ⟨[]⟩ ⟨[]⟩]⟩ ++ ⟨cs⟩) ((w.alloc (.deferred (some []))).alloc (.loop r0))
  simpa using this
 generalize hl : w.heap.size + 1 = l at *
 generalize hD0 : w.heap.size = D0 at *
 have hy : ∀ pre y ρ' Lj, (pre ++ [y]) <+: xs → ρ0.le ρ' → JH l (Rec a.tmps ⟨ps⟩ assign body) (J pre) ρ' Lj → ZK P l (enc y) ρ' (S ++ Lj) (YP S (JH l (Rec a.tmps ⟨ps⟩ assign body) (J (pre ++ [y]))) (XH l (Rec a.tmps ⟨ps⟩ assign body) Jx)) := by
  intro pre y ρ' Lj hpre hle' hJ
  obtain ⟨r, Lu, rfl, hrs, hrp, hrr, hJu⟩ := hJ
  intro u' R' w' hw'
  have hlr := hw'.here (l, .loop r) (by simp)
  have hargs : (⟨enc y⟩ : Array Value).size = r.params.size := by rw [hrr.params]; simpa using hps y
  refine ⟨_, _, _, _, run_yield hlr hargs, ?_⟩
  have hround' := hround l a.tmps r pre y ρ' Lu u' R' hpre hle' hJu hrs hrr
  have hsat : Sat u' ρ' ([(l, .loop r)] :: (S ++ (Lu ++ R'))) w' := hw'.perm (by simp)
  have hok : Ok [] N (envP ps (enc y) E) { tmps := (r.params.zip ⟨enc y⟩).foldl (fun tmps (t, a) => tmps.setIfInBounds t a) r.tmps, defers := [] } := by
   have h1 : Ok [] N E { tmps := a.tmps, defers := [] } := ⟨rfl, ha.size, ha.get⟩
   have := Ok.putP ps (enc y) E a.tmps hpN h1
   rw [hrr.params, hrr.tmps]
   have e : ((⟨ps⟩ : Array Nat).zip ⟨enc y⟩) = ⟨ps.zip (enc y)⟩ := by simp
   rw [e]
   simpa using this
  have hwp := hround' _ w' hok hsat
  rw [hrr.assign, hrr.body]
  refine roundIn_of_wpIn (F := Fw none) (n := 0) trivial ?_
  exact hwp
 have hspec := hI l (fun pre => JH l (Rec a.tmps ⟨ps⟩ assign body) (J pre)) (XH l (Rec a.tmps ⟨ps⟩ assign body) Jx) (fun ρ Lj ⟨r, Lu, e1, _, _, _, e5⟩ => by
  obtain ⟨A, B, rfl⟩ := hC _ _ e5
  exact ⟨[(l, .loop r)] :: A, B, by rw [e1]; rfl⟩) hy ρ ([(l, .loop r0)] :: L0) hle ⟨r0, L0, rfl, hst0.1, hst0.2, hrec0, h0⟩
 have hcall := hspec u ([(D0, .deferred (some []))] :: R) ((w.alloc (.deferred (some []))).alloc (.loop r0)) (hw2.perm (by
  simp only [List.flatten_cons, List.flatten_append, List.append_assoc, List.cons_append, List.singleton_append, List.nil_append]
  refine List.Perm.trans (l₂ := S.flatten ++ ((l, .loop r0) :: (D0, .deferred (some [])) :: (L0.flatten ++ R.flatten))) ?_ ?_
  ·refine List.Perm.trans ?_ List.perm_middle.symm
   refine List.Perm.cons _ ?_
   exact List.perm_middle.symm
  ·refine List.Perm.append_left _ (List.Perm.cons _ ?_)
   exact List.perm_middle.symm))
 refine calls_ro (CallsIn.mono hcall ?_)
 rintro e w3 ⟨v, ρ', L', rfl, hle', hsat, Lj', rfl, hor⟩
 have perm4 : ∀ (c : List (Nat × Obj)) (Lu : SH), (S ++ (c :: Lu) ++ ([(D0, .deferred (some []))] :: R)).flatten.Perm (c :: ([(D0, .deferred (some []))] :: (S ++ (Lu ++ R)))).flatten := fun c Lu => by
  simp only [List.flatten_cons, List.flatten_append, List.append_assoc, List.cons_append, List.singleton_append, List.nil_append]
  refine List.Perm.trans ?_ (List.Perm.append_left c (List.perm_middle (l₁ := S.flatten ++ Lu.flatten) (a := (D0, .deferred (some []))) (l₂ := R.flatten) |>.trans (by simp)))
  rw [← List.append_assoc, ← List.append_assoc c]
  refine List.Perm.trans (List.Perm.append_right _ List.perm_append_comm) ?_
  simp only [List.append_assoc]
  exact List.Perm.refl _
 rcases hor with ⟨r, Lu, rfl, hrs, hrp, hrr, hJu⟩ | ⟨r, Lu, c, rfl, hrs, hrp, hrr, hJu⟩
 ·have hs1 := hsat.perm (perm4 [(l, .loop r)] Lu)
  have hlr := hs1.here (l, .loop r) (by simp)
  refine ⟨r.pending, _, run_endLoop hlr (by rw [hrs]; simp), ?_⟩
  rw [hrp]
  have hs2 := (hs1.put (.loop { r with state := .exhausted, pending := none })).sub (L' := [(D0, .deferred (some []))] :: (S ++ (Lu ++ R))) (by simp)
  exact hdone D0 ρ' Lu hle' hJu _ _ ⟨by simp [ha.defers], ha.size, ha.get⟩ hs2
 ·have hs1 := hsat.perm (perm4 [(l, .loop r)] Lu)
  have hlr := hs1.here (l, .loop r) (by simp)
  refine ⟨r.pending, _, run_endLoop hlr (by rw [hrs]; simp), ?_⟩
  rw [hrp]
  have hs2 := (hs1.put (.loop { r with state := .exhausted, pending := some c })).sub (L' := [(D0, .deferred (some []))] :: (S ++ (Lu ++ R))) (by simp)
  exact hstop D0 c ρ' Lu hle' hJu _ _ ⟨by simp [ha.defers], ha.size, ha.get⟩ hs2
end
end Go.Proofs.E
namespace Go.Proofs.E
open Go
set_option linter.unusedVariables false
set_option linter.unusedSimpArgs false
attribute [local irreducible] Yl TL TC TE Spec ZK R1 Hp.le EnvLe TS TR YS Zp
inductive Pl | o | f (ns : List Nat) (t : Pl) | e (n : Nat) (ns : List Nat) (t : Pl) | b (i j : Nat) (ns ms : List Nat) (s t : Pl) | c (i j k : Nat) (ns ms os : List Nat) (s t u : Pl)
def TP (ns : List Nat) (t : Pl) (G : Prop) : Prop := G
def QP (ns : List Nat) (t : Pl) (q : Exit → Act → World → Prop) : Exit → Act → World → Prop := q
section
variable {x : Cx} {Q : Exit → Act → World → Prop} {E : Env} {ρ ρ0 : Hp} {L Ls : SH} {ops : Array Oper} {rest : List Oper} {ty : TypeId} {pos : String} {af : Array Edge} {d : Nat} {v : Value} {dd : Option Nat} {gd : Nat × Bool} {op : Op} {l : List Oper} {listed : List Bool} {fuel : Nat} {tail : List Oper} {n : Nat} {ns : List Nat} {t : Pl}
theorem qR {d g : Nat} {f : Operand} {xs : List Operand} {ats : Array TypeId} {fs cs vs : List Value} {Lf Lg R : SH} {w : Value} {ρ1 : Hp} (hf : ev E f = some (.func (.func g) ⟨fs⟩ ⟨cs⟩)) (hv : evs E xs = some vs) [hF : ZJ x.P g]
  (S : Spec x.P g (fs ++ vs ++ cs) ρ Lf (fun v ρ' L' => v = w ∧ ρ' = ρ1 ∧ L' = Lg)) (k : TL x ops rest Q ((d, w) :: E) ρ1 (Lg ++ R)) (hT : Xd L Lf R := by exact tk) (hd : Nat.blt d x.N = true := by rfl) :
  TL x ops (⟨some d, .call { callee := .value f, args := ⟨xs⟩, argTypes := ats }, ty, pos, af, none⟩ :: rest) Q E ρ L := qC hf hv S (fun _ _ _ _ h => by obtain ⟨rfl, rfl, rfl⟩ := h; exact k) hT hd
theorem iT {P : Prop} (h : TP ns t P) : TP ns t P := h
theorem iQ {P : Prop} (h : TP (n :: ns) t P) : TP (n :: ns) t P := h
theorem iF {P : Prop} (h : TP [] (.f ns t) P) : TP [] (.f ns t) P := h
theorem iD {P : Prop} (h : TP [] .o P) : TP [] .o P := h
theorem iE {P : Prop} (h : TP [] (.e n ns t) P) : TP [] (.e n ns t) P := h
theorem iB {P : Prop} {i j : Nat} {ms : List Nat} {s : Pl} (h : TP [] (.b i j ns ms s t) P) : TP [] (.b i j ns ms s t) P := h
theorem iC {P : Prop} {i j k : Nat} {ms os : List Nat} {s u : Pl} (h : TP [] (.c i j k ns ms os s t u) P) : TP [] (.c i j k ns ms os s t u) P := h
theorem tpA (ns : List Nat) (t : Pl) (Ls : SH) {id : Nat} {R : SH} [hm : Mixed x.P] (h : TP ns t (TR x l (Zp x ρ Ls) l.length (List.replicate l.length false) Q E ρ L)) (hT : Xd L Ls R := by exact tk) : TC x (.region id l.toArray true) Q E ρ L := tc_any (Zp x ρ Ls) (Wp (hT := hT) (Hp.le_refl _)) h
theorem tpZ (ns : List Nat) (t : Pl) {id : Nat} [hm : Mixed x.P] (h : TP ns t (TR x l (Zp x ρ L) l.length (List.replicate l.length false) Q E ρ L)) : TC x (.region id l.toArray true) Q E ρ L := tc_any (Zp x ρ L) stays_refl h
theorem rQ (k : TP ns t (TR x l (Zp x ρ0 Ls) fuel (XZ listed n) Q ((d, v) :: E) ρ L)) (hi : l[n]? = some ⟨some d, op, ty, pos, af, none⟩ := by rfl) (hb : WA l listed n = true := by decide +kernel) (y : ∀ ρ', ρ0.le ρ' → Yl x op ty E ρ' Ls v := by intro _ _; exact yD) (hd : Nat.blt d x.N = true := by rfl) : TP (n :: ns) t (TR x l (Zp x ρ0 Ls) (fuel + 1) listed Q E ρ L) := tr_take n hb hi (ys_of' (fun _ h => h) y) hd k
theorem rW {j t0 : Nat} {b0 : Bool} (k : TP ns t (TR x l (Zp x ρ0 Ls) fuel (XZ listed n) Q ((d, v) :: E) ρ L)) (hi : l[n]? = some ⟨some d, op, ty, pos, af, some (j, b0)⟩ := by rfl) (hj : (l[j]?).bind (·.dst) = some t0 := by rfl) (he : lk E t0 = some (.bool b0) := by rfl) (hb : WA l listed n = true := by decide +kernel) (y : ∀ ρ', ρ0.le ρ' → Yl x op ty E ρ' Ls v := by intro _ _; exact yD) (hd : Nat.blt d x.N = true := by rfl) : TP (n :: ns) t (TR x l (Zp x ρ0 Ls) (fuel + 1) listed Q E ρ L) := tr_want n hb hi hj he (ys_of' (fun _ h => h) y) hd k
theorem rK {j t0 : Nat} {b c : Bool} (k : TP ns t (TR x l (Zp x ρ0 Ls) fuel (XZ listed n) Q ((d, undef) :: E) ρ L)) (hi : l[n]? = some ⟨some d, op, ty, pos, af, some (j, c)⟩ := by rfl) (hj : (l[j]?).bind (·.dst) = some t0 := by rfl) (he : lk E t0 = some (.bool b) := by rfl) (hbc : (b == c) = false := by rfl) (hb : WA l listed n = true := by decide +kernel) (hd : Nat.blt d x.N = true := by rfl) : TP (n :: ns) t (TR x l (Zp x ρ0 Ls) (fuel + 1) listed Q E ρ L) := tr_skip n hb hi hj he hbc hd k
theorem rU {j t0 : Nat} {c : Bool} (k : TP ns t (TR x l (Zp x ρ0 Ls) fuel (XZ listed n) Q ((d, undef) :: E) ρ L)) (hi : l[n]? = some ⟨some d, op, ty, pos, af, some (j, c)⟩ := by rfl) (hj : (l[j]?).bind (·.dst) = some t0 := by rfl) (he : lk E t0 = some undef := by rfl) (hb : WA l listed n = true := by decide +kernel) (hd : Nat.blt d x.N = true := by rfl) : TP (n :: ns) t (TR x l (Zp x ρ0 Ls) (fuel + 1) listed Q E ρ L) := tr_undef n hb hi (fun a ha => yl_undef ha (by simpa using hj) he) hd k
theorem rKe {j t0 : Nat} {b c : Bool} (k : TP ns t (TR x l (Zp x ρ0 Ls) fuel (XZ listed n) Q ((d, undef) :: E) ρ L)) (hi : l[n]? = some ⟨some d, op, ty, pos, af, some (j, c)⟩ := by rfl) (hj : (l[j]?).bind (·.dst) = some t0 := by rfl) (he : lk E t0 = some (.bool b) := by rfl) (hbc : (b == c) = false := by rfl) (hb : WA l listed n = true := by decide +kernel) (hd : Nat.blt d x.N = true := by rfl) : TP [] (.e n ns t) (TR x l (Zp x ρ0 Ls) (fuel + 1) listed Q E ρ L) := tr_skip n hb hi hj he hbc hd k
theorem rUe {j t0 : Nat} {c : Bool} (k : TP ns t (TR x l (Zp x ρ0 Ls) fuel (XZ listed n) Q ((d, undef) :: E) ρ L)) (hi : l[n]? = some ⟨some d, op, ty, pos, af, some (j, c)⟩ := by rfl) (hj : (l[j]?).bind (·.dst) = some t0 := by rfl) (he : lk E t0 = some undef := by rfl) (hb : WA l listed n = true := by decide +kernel) (hd : Nat.blt d x.N = true := by rfl) : TP [] (.e n ns t) (TR x l (Zp x ρ0 Ls) (fuel + 1) listed Q E ρ L) := tr_undef n hb hi (fun a ha => yl_undef ha (by simpa using hj) he) hd k
theorem rG {S : World → Prop} {j t0 : Nat} {b c : Bool} (h1 : b = true → TP (n :: ns) t (TR x l S fuel listed Q ((t0, .bool true) :: E) ρ L)) (h2 : b = false → TP (n :: ns) t (TR x l S fuel listed Q ((t0, .bool false) :: E) ρ L)) (hi : l[n]? = some ⟨dd, op, ty, pos, af, some (j, c)⟩ := by rfl) (hj : (l[j]?).bind (·.dst) = some t0 := by rfl) (he : lk E t0 = some (.bool b) := by rfl) :
  TP (n :: ns) t (TR x l S fuel listed Q E ρ L) := tr_guard he h1 h2
theorem rF {R : SH} (h : TP ns t (TR x l (Zp x ρ L) fuel listed Q E ρ L)) (hle : ρ0.le ρ := by first | assumption | exact Hp.le_refl _ | (refine Hp.le_trans ?_ (by assumption); assumption) | solve_by_elim (maxDepth := 6) [Hp.le_trans]) (hT : Xd L Ls R := by exact tk) : TP [] (.f ns t) (TR x l (Zp x ρ0 Ls) fuel listed Q E ρ L) := tr_full hle hT h
theorem rD {S : World → Prop} (h : TE x .normal Q E ρ L) (hr : Region.ready .any l.toArray ⟨listed⟩ = [] := by decide +kernel) : TP [] .o (TR x l S fuel listed Q E ρ L) := tr_done hr h
theorem rA {G P : Prop} (k : G) (h : G → TP ns t P := by
   intro k
   first
   | (refine iQ ?_; first | exact rQ k | exact rW k | exact rK k | exact rU k)
   | (refine iF ?_; exact rF k)
   | (refine iD ?_; exact rD k)
   | (refine iE ?_; first | exact rKe k | exact rUe k)) : TP ns t P := h k
theorem rAb {G P : Prop} (k : G) (h : G → TP ns t P := by
   intro k
   first
   | (refine iQ ?_; first | exact rQ k (y := by intro _ _; exact Vk rfl) | exact rQ k | exact rW k | exact rK k | exact rU k)
   | (refine iF ?_; exact rF k)
   | (refine iD ?_; exact rD k)
   | (refine iE ?_; first | exact rKe k | exact rUe k)) : TP ns t P := h k
theorem rE {o : Oper} (h : TL x l.toArray [o] (QP ns t (QR x l (Zp x ρ0 Ls) fuel (XZ listed n) Q)) E ρ L) (ho : l[n]? = some o := by rfl) (hr : Region.ready .any l.toArray ⟨listed⟩ = [n] := by decide +kernel) : TP [] (.e n ns t) (TR x l (Zp x ρ0 Ls) (fuel + 1) listed Q E ρ L) := tr_step1 hr ho h
theorem rB {i j : Nat} {ms : List Nat} {s : Pl} {o p : Oper} (h : TL x l.toArray [o] (QP ns s (QR x l (Zp x ρ0 Ls) fuel (XZ listed i) Q)) E ρ L) (h' : TL x l.toArray [p] (QP ms t (QR x l (Zp x ρ0 Ls) fuel (XZ listed j) Q)) E ρ L) (hr : Region.ready .any l.toArray ⟨listed⟩ = [i, j] := by decide +kernel) (ho : l[i]? = some o := by rfl) (hp : l[j]? = some p := by rfl) :
  TP [] (.b i j ns ms s t) (TR x l (Zp x ρ0 Ls) (fuel + 1) listed Q E ρ L) := tr_step2 hr ho hp h h'
theorem rC {i j k : Nat} {ms os : List Nat} {s u : Pl} {o p q : Oper} (h : TL x l.toArray [o] (QP ns s (QR x l (Zp x ρ0 Ls) fuel (XZ listed i) Q)) E ρ L) (h' : TL x l.toArray [p] (QP ms t (QR x l (Zp x ρ0 Ls) fuel (XZ listed j) Q)) E ρ L) (h'' : TL x l.toArray [q] (QP os u (QR x l (Zp x ρ0 Ls) fuel (XZ listed k) Q)) E ρ L) (hr : Region.ready .any l.toArray ⟨listed⟩ = [i, j, k] := by decide +kernel) (ho : l[i]? = some o := by rfl) (hp : l[j]? = some p := by rfl) (hq : l[k]? = some q := by rfl) :
  TP [] (.c i j k ns ms os s t u) (TR x l (Zp x ρ0 Ls) (fuel + 1) listed Q E ρ L) := rStep3 h h' h'' hr ho hp hq
theorem rN {R : SH} (h : TP ns t (TR x l (Zp x ρ0 Ls) fuel listed Q E ρ L)) (hle : ρ0.le ρ := by first | assumption | exact Hp.le_refl _ | (refine Hp.le_trans ?_ (by assumption); assumption) | solve_by_elim (maxDepth := 6) [Hp.le_trans]) (hT : Xd L Ls R := by exact tk) : TE x .normal (QP ns t (QR x l (Zp x ρ0 Ls) fuel listed Q)) E ρ L := te_any (Wp hle (hT := hT)) h
end
theorem zB {G P : Prop} (k : G) (h : G → P := by
   intro k
   first
   | (refine i_op ?_; first | (refine i_qq ?_; exact qQ k) | exact Yj k | exact qAn k | exact qXo k | exact qNt k)
   | exact Zi k
   | (refine i_tc ?_; exact qTc k)
   | (refine i_te ?_; exact qTe k)) : P := h k
theorem kA {α : Type _} : (∀ (a : α) (s t : List α), (a :: s) ++ t = a :: (s ++ t)) ∧ (∀ s : List α, [] ++ s = s) ∧ (∀ s t : List α, List.append s t = s ++ t) := ⟨fun _ _ _ => rfl, fun _ => rfl, fun _ _ => rfl⟩
end Go.Proofs.E
