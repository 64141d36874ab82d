/- Laws of analysis. Part 2 of 37. -/
import Derived.Test.YtkbiahafeoillaaGreatB1
import Derived.MapKept
import Derived.RangeFuncNested
import Derived.StillTail
namespace Go.Proofs.E
open Go
set_option linter.unusedVariables false
set_option linter.unusedSimpArgs false
section
variable {x : Cx} {Q : Exit → Act → World → Prop} {E : Env} {ρ : Hp} {L : SH} {ops : Array Oper} {rest : List Oper} {ty : TypeId} {pos : String} {af : Array Edge}
theorem Xx {P : Program} {t : TypeId} {z : Value} (h : Zw P t z) (w : World) : (zeroValue t).run P w = .ok z w := by
 obtain ⟨i, h1, h2⟩ := h.out
 simp [zeroValue, typeInfo, h1, h2]
theorem tl_new {d : Nat} {op : Op} {o : Obj} {g : Nat → Value} (hr : ∀ a w, Ok x.D x.N E a → Sat x.u ρ L w → (execOp a.eval ⟨some d, op, ty, pos, af, none⟩).run x.P w = .ok (.value (g w.heap.size)) { w with heap := w.heap.push o })
  (hd : Nat.blt d x.N = true) (hn : XW op = true) (k : ∀ b, TL x ops rest Q ((d, g b) :: E) ρ ([(b, o)] :: L)) :
  TL x ops (⟨some d, op, ty, pos, af, none⟩ :: rest) Q E ρ L := fun a w ha hw => by
 refine Yg rfl hn ?_
 rw [hr a w ha hw]
 exact k _ _ _ (ha.put (Nat.le_of_ble_eq_true hd) _) (hw.new o)
theorem tl_alloc {d t : Nat} {z : Value} [hz : Zw x.P t z] (hd : Nat.blt d x.N = true) (k : ∀ b, TL x ops rest Q ((d, .pointer (some ⟨b, 0, none⟩)) :: E) ρ ([(b, .cells z.cells t (0, 0))] :: L)) :
  TL x ops (⟨some d, .alloc t, ty, pos, af, none⟩ :: rest) Q E ρ L :=
 tl_new (g := fun b => .pointer (some ⟨b, 0, none⟩)) (fun a w ha hw => by simp [execOp, Instr.alloc, Xx hz, newVar, newRow]) hd rfl k
theorem tl_box {d t : Nat} {o : Operand} {v : Value} (h : ev E o = some v) (hd : Nat.blt d x.N = true) (k : ∀ b, TL x ops rest Q ((d, .pointer (some ⟨b, 0, none⟩)) :: E) ρ ([(b, .cells v.cells t (0, 0))] :: L)) :
  TL x ops (⟨some d, .box t o, ty, pos, af, none⟩ :: rest) Q E ρ L :=
 tl_new (g := fun b => .pointer (some ⟨b, 0, none⟩)) (fun a w ha hw => by simp [execOp, Instr.box, newVar, newRow, ha.eval h]) hd rfl k
theorem Wl {v : Value} (h : v.oneCell' = true) : v.cells = ⟨[v]⟩ := by cases v <;> simp_all [Value.oneCell', Value.cells]
theorem tl_alloc_s {d t : Nat} {z : Value} [hz : Zw x.P t z] (h : z.oneCell' = true) (hd : Nat.blt d x.N = true) (k : ∀ b, TL x ops rest Q ((d, .pointer (some ⟨b, 0, none⟩)) :: E) ρ ([(b, .cells ⟨[z]⟩ t (0, 0))] :: L)) :
  TL x ops (⟨some d, .alloc t, ty, pos, af, none⟩ :: rest) Q E ρ L := tl_alloc hd (by rw [Wl h]; exact k)
theorem tl_alloc_a {d t : Nat} {l : List Value} [hz : Zw x.P t (.agg ⟨l⟩)] (hd : Nat.blt d x.N = true) (k : ∀ b, TL x ops rest Q ((d, .pointer (some ⟨b, 0, none⟩)) :: E) ρ ([(b, .cells ⟨l⟩ t (0, 0))] :: L)) :
  TL x ops (⟨some d, .alloc t, ty, pos, af, none⟩ :: rest) Q E ρ L := tl_alloc (z := .agg ⟨l⟩) hd k
theorem tl_box_s {d t : Nat} {o : Operand} {v : Value} (h : ev E o = some v) (h1 : v.oneCell' = true) (hd : Nat.blt d x.N = true) (k : ∀ b, TL x ops rest Q ((d, .pointer (some ⟨b, 0, none⟩)) :: E) ρ ([(b, .cells ⟨[v]⟩ t (0, 0))] :: L)) :
  TL x ops (⟨some d, .box t o, ty, pos, af, none⟩ :: rest) Q E ρ L := tl_box h hd (by rw [Wl h1]; exact k)
theorem tl_box_a {d t : Nat} {o : Operand} {l : List Value} (h : ev E o = some (.agg ⟨l⟩)) (hd : Nat.blt d x.N = true) (k : ∀ b, TL x ops rest Q ((d, .pointer (some ⟨b, 0, none⟩)) :: E) ρ ([(b, .cells ⟨l⟩ t (0, 0))] :: L)) :
  TL x ops (⟨some d, .box t o, ty, pos, af, none⟩ :: rest) Q E ρ L := tl_box (v := .agg ⟨l⟩) h hd k
theorem tl_makeMap {d t : Nat} (hd : Nat.blt d x.N = true) (k : ∀ b, TL x ops rest Q ((d, .map (some b)) :: E) ρ ([(b, .map ⟨[]⟩ 0)] :: L)) :
  TL x ops (⟨some d, .makeMap t none, ty, pos, af, none⟩ :: rest) Q E ρ L :=
 tl_new (g := fun b => .map (some b)) (fun a w ha hw => by simp [execOp, Instr.makeMap]) hd rfl k
theorem tl_makeSlice {d t e sz by' : Nat} {l c : Operand} {kl kc : IntKind} {m n : Int} {z : Value} [hS : ZT x.P t e] [hZ : ZJ x.P e sz] [hB : Zu x.P e by'] [hz : Zw x.P e z] (hl : ev E l = some (.int kl m)) (hc : ev E c = some (.int kc n))
  (h0 : 0 ≤ m) (h1 : m ≤ n) (h2 : (by' : Int) * n ≤ 281474976710656) (h3 : n ≤ 9223372036854775807) (hd : Nat.blt d x.N = true)
  (k : ∀ b, TL x ops rest Q ((d, .slice (some ⟨b, 0, none⟩) m.toNat n.toNat) :: E) ρ ([(b, .cells (madeCells z.cells (n.toNat * sz)) e (0, 0))] :: L)) :
  TL x ops (⟨some d, .makeSlice t l c, ty, pos, af, none⟩ :: rest) Q E ρ L :=
 tl_new (g := fun b => .slice (some ⟨b, 0, none⟩) m.toNat n.toNat) (fun a w ha hw => by
  obtain ⟨i, g1, g2⟩ := hZ.out
  obtain ⟨i2, g3, g4⟩ := hB.out
  obtain ⟨i3, g5, g6⟩ := hz.out
  rw [g1] at g3 g5
  cases g3; cases g5
  have := run_make (P := x.P) w t e i z hS.out g1 g6 kl kc m n h0 h1 (by rw [g4]; exact h2) h3
  simp only [execOp, ha.eval hl, ha.eval hc, Sem.run_bind, this, Result.andThen_ok, Sem.run_pure, g2]
  rfl) hd rfl k
theorem evsP {D N E a} (h : Ok D N E a) {ps : List (Nat × Operand)} {vs : List Value} (hv : evs E (ps.map (·.2)) = some vs) : (ps.map fun p => (p.1, a.eval p.2)) = (ps.map (·.1)).zip vs := by
 have := h.evals hv
 rw [← this]
 clear this hv
 induction ps with
 | nil => rfl
 | cons p r ih => simp [ih]
class ZM (P : Program) (t : TypeId) (f : outParam (Nat → Option (Nat × Nat))) : Prop where
 out : (∃ fs, P.underlying t = some (.struct fs) ∧ ∃ ps : Array (Nat × Nat), (∀ w, (fs.mapM fun f => do pure (f.offset, ← sizeOf f.type) : Sem (Array (Nat × Nat))).run P w = .ok ps w) ∧ f = (ps[·]?)) ∨
  (∃ n e sz, P.underlying t = some (.array n e) ∧ (∀ w, (sizeOf e).run P w = .ok sz w) ∧ f = fun i => some (i * sz, sz))
theorem y_build {t : Nat} {f : Nat → Option (Nat × Nat)} {z : Value} {ps : List (Nat × Operand)} {vs : List Value} {cells : Array Value} [hP : ZM x.P t f] [hz : Zw x.P t z] (hv : evs E (ps.map (·.2)) = some vs)
  (hf : Instr.fill f z.cells ((ps.map (·.1)).zip vs) = some cells) : Yl x (.build t ⟨ps⟩) ty E ρ L (.agg cells) := fun a w _ _ _ _ ha _ => by
 have e : Array.map (fun (p : Nat × Operand) => (p.1, a.eval p.2)) (⟨ps⟩ : Array (Nat × Operand)) = ⟨(ps.map (·.1)).zip vs⟩ := by
  rw [List.map_toArray, evsP ha hv]
 have e' : (Array.map (fun x : Nat × Operand => match x with | (i, x) => (i, a.eval x)) (⟨ps⟩ : Array (Nat × Operand))) = ⟨(ps.map (·.1)).zip vs⟩ := e
 rcases hP.out with ⟨fs, h1, places, h2, rfl⟩ | ⟨n, el, sz, h1, h2, rfl⟩
 ·simp only [execOp, e', Instr.build, Sem.run_bind, Xx hz, Result.andThen_ok, underlying, run_program, h1, Sem.run_pure, h2, hf]
 ·simp only [execOp, e', Instr.build, Sem.run_bind, Xx hz, Result.andThen_ok, underlying, run_program, h1, Sem.run_pure, h2, hf]
theorem tl_buildSlice {d t e sz len : Nat} {z : Value} {ps : List (Nat × Operand)} {vs : List Value} {cells : Array Value} [hS : ZT x.P t e] [hZ : ZJ x.P e sz] [hz : Zw x.P e z] (hv : evs E (ps.map (·.2)) = some vs)
  (hlen : (0 < len * sz ∧ len * sz ≤ 16777216) = True)
  (hf : Instr.fill (fun i => some (i * sz, sz)) ((Array.range (len * sz)).map (z.cells[· % z.cells.size]!)) ((ps.map (·.1)).zip vs) = some cells) (hd : Nat.blt d x.N = true)
  (k : ∀ b, TL x ops rest Q ((d, .slice (some ⟨b, 0, none⟩) len len) :: E) ρ ([(b, .cells cells e (0, 0))] :: L)) :
  TL x ops (⟨some d, .buildSlice t len ⟨ps⟩, ty, pos, af, none⟩ :: rest) Q E ρ L :=
 tl_new (g := fun b => .slice (some ⟨b, 0, none⟩) len len) (fun a w ha hw => by
  have e' : (Array.map (fun x : Nat × Operand => match x with | (i, x) => (i, a.eval x)) (⟨ps⟩ : Array (Nat × Operand))) = ⟨(ps.map (·.1)).zip vs⟩ := by
   have e : Array.map (fun (p : Nat × Operand) => (p.1, a.eval p.2)) (⟨ps⟩ : Array (Nat × Operand)) = ⟨(ps.map (·.1)).zip vs⟩ := by
    rw [List.map_toArray, evsP ha hv]
   exact e
  obtain ⟨i, g1, g2⟩ := hZ.out
  obtain ⟨hp, hq⟩ := of_eq_true hlen
  have h0 : ¬ (16777216 < len * sz) := by omega
  have h1 : ¬ (len * sz = 0) := by omega
  have hsz : (sizeOf e).run x.P w = .ok sz w := by simp [sizeOf, typeInfo, g1, g2]
  simp only [execOp, e', Instr.buildSlice, Sem.run_bind, underlying, run_program, Result.andThen_ok, hS.out, Sem.run_pure, hsz, gt_iff_lt, Nat.reducePow, h0, if_false, h1, Xx hz, hf, newRow, run_newObj]) hd rfl k
theorem setRow_eq {w : World} {b : Nat} {old new : Array Value} {T : TypeId} {fr : Nat × Nat} (h : w.heap[b]? = some (.cells old T fr)) : w.setRow b new = putB w b (.cells new T fr) := by
 obtain ⟨hlt, hv⟩ := Array.getElem?_eq_some_iff.1 h
 unfold World.setRow putB
 congr 1
 apply Array.ext_getElem?
 intro i
 rw [Array.getElem?_modify]
 by_cases hi : b = i
 ·subst hi; simp [hlt, hv]
 ·rw [if_neg hi, Array.getElem?_setIfInBounds_ne hi]
theorem run_storeAt_row {w : World} {P : Program} {b off n t : Nat} {l : List Value} {T : TypeId} {v : Value} (hZ : ZJ P t n) (hb : w.heap[b]? = some (.cells ⟨l⟩ T (0, 0))) (hn : v.cells.size = n) (hfit : off + n ≤ l.length) (h1 : ∀ c ∈ v.cells.toList, c.oneCell' = true) :
  (Instr.storeAt t (.pointer (some ⟨b, off, none⟩)) v).run P w = .ok () (putB w b (.cells ⟨l.take off ++ v.cells.toList ++ l.drop (off + n)⟩ T (0, 0))) := by
 obtain ⟨i, g1, g2⟩ := hZ.out
 have hst := run_storeCells_at P b off T v.cells.toList 0 ⟨l⟩ w hb (by simpa [hn] using hfit) h1
 have hlen : v.cells.toList.length = n := by simpa using hn
 rw [setRow_eq hb] at hst
 simp only [Nat.add_zero, hlen] at hst
 simp only [Instr.storeAt, Instr.sureAddr, storeVar, Sem.run_bind, Sem.run_pure, Result.andThen_ok, sizeOf, typeInfo, run_program, g1, g2, hn, ne_eq, not_true_eq_false, if_false, hst]
def stc (l : List Value) (off : Nat) (vs : List Value) : List Value := l.take off ++ vs ++ l.drop (off + vs.length)
theorem tl_store {t b off n : Nat} {o p : Operand} {l : List Value} {T : TypeId} {v : Value} {f : Obj → SH} (ho : ev E o = some (.pointer (some ⟨b, off, none⟩))) (hp : ev E p = some v) [hZ : ZJ x.P t n] [hU : Upd b L (.cells ⟨l⟩ T (0, 0)) f]
  (hn : v.cells.toList.length = n) (hfit : off + n ≤ l.length) (h1 : v.cells.toList.all (·.oneCell') = true)
  (k : TL x ops rest Q E ρ (f (.cells ⟨stc l off v.cells.toList⟩ T (0, 0)))) :
  TL x ops (⟨none, .store t o p, ty, pos, af, none⟩ :: rest) Q E ρ L := fun a w ha hw => by
 refine Yg rfl rfl ?_
 obtain ⟨hs, hb⟩ := hw.upd hU (.cells ⟨stc l off v.cells.toList⟩ T (0, 0))
 have hrun := run_storeAt_row (P := x.P) (off := off) (v := v) hZ hb (by simpa using hn) hfit (fun c hc => List.all_eq_true.1 h1 c hc)
 have : (execOp a.eval ⟨none, .store t o p, ty, pos, af, none⟩).run x.P w = .ok .skip (putB w b (.cells ⟨stc l off v.cells.toList⟩ T (0, 0))) := by
  simp only [execOp, ha.eval ho, ha.eval hp, Sem.run_bind, hrun, Result.andThen_ok, Sem.run_pure, stc, hn]
 rw [this]
 exact k _ _ (ha.put_none undef) hs
theorem tl_store_s {t b off : Nat} {o p : Operand} {l : List Value} {T : TypeId} {v : Value} {f : Obj → SH} (ho : ev E o = some (.pointer (some ⟨b, off, none⟩))) (hp : ev E p = some v) (h1 : v.oneCell' = true) [hZ : ZJ x.P t 1] [hU : Upd b L (.cells ⟨l⟩ T (0, 0)) f]
  (hfit : Nat.ble (off + 1) l.length = true)
  (k : TL x ops rest Q E ρ (f (.cells ⟨stc l off [v]⟩ T (0, 0)))) :
  TL x ops (⟨none, .store t o p, ty, pos, af, none⟩ :: rest) Q E ρ L :=
 tl_store ho hp (by rw [Wl h1]; rfl) (Nat.le_of_ble_eq_true hfit) (by rw [Wl h1]; simp [h1]) (by rw [Wl h1]; exact k)
theorem tl_store_a {t b off n : Nat} {o p : Operand} {l vs : List Value} {T : TypeId} {f : Obj → SH} (ho : ev E o = some (.pointer (some ⟨b, off, none⟩))) (hp : ev E p = some (.agg ⟨vs⟩)) [hZ : ZJ x.P t n] (hn : vs.length = n) (h1 : vs.all (·.oneCell') = true) [hU : Upd b L (.cells ⟨l⟩ T (0, 0)) f]
  (hfit : Nat.ble (off + n) l.length = true)
  (k : TL x ops rest Q E ρ (f (.cells ⟨stc l off vs⟩ T (0, 0)))) :
  TL x ops (⟨none, .store t o p, ty, pos, af, none⟩ :: rest) Q E ρ L :=
 tl_store ho hp hn (Nat.le_of_ble_eq_true hfit) h1 k
theorem ble_le {m n : Nat} (h : m ≤ n) : Nat.ble m n = true := Nat.ble_eq_true_of_le h
def Xe (es : List MapEntry) (k : Int) : Option Value := (es.find? fun e => match e.key with | .int _ a => a == k | _ => false).map (·.val)
def YU (kk : IntKind) (es : List MapEntry) : Prop := ∀ e ∈ es, ∃ a, e.key = .int kk a
theorem findNow_int {kk : IntKind} {k : Int} : ∀ (es : List MapEntry) (i : Nat), YU kk es →
  (Xe es k = none ∧ Instr.findNow (.int kk) (.int kk k) es i = some none) ∨
  ∃ pre e post, es = pre ++ e :: post ∧ e.key = .int kk k ∧ Xe pre k = none ∧ Xe es k = some e.val ∧ Instr.findNow (.int kk) (.int kk k) es i = some (some (i + pre.length, e.val))
 | [], i, _ => .inl ⟨rfl, rfl⟩
 | e :: r, i, h => by
  obtain ⟨a, ha⟩ := h e (by simp)
  have hr : YU kk r := fun e' he => h e' (by simp [he])
  by_cases hk : k = a
  ·subst hk
   refine .inr ⟨[], e, r, rfl, ha, rfl, by simp [Xe, ha], by simp [Instr.findNow, Instr.sameNow, ha]⟩
  ·have hf : Instr.findNow (.int kk) (.int kk k) (e :: r) i = Instr.findNow (.int kk) (.int kk k) r (i + 1) := by
    have : (k == a) = false := by simpa using hk
    simp [Instr.findNow, Instr.sameNow, ha, this]
   have hg : ∀ l, Xe (e :: l) k = Xe l k := fun l => by
    have : (a == k) = false := by simpa using fun e : a = k => hk e.symm
    simp [Xe, List.find?_cons, ha, this]
   rcases findNow_int r (i + 1) hr with ⟨h1, h2⟩ | ⟨pre, e', post, rfl, h1, h2, h3, h4⟩
   ·exact .inl ⟨by rw [hg]; exact h1, by rw [hf]; exact h2⟩
   ·exact .inr ⟨e :: pre, e', post, rfl, h1, by rw [hg]; exact h2, by rw [hg]; exact h3, by rw [hf, h4]; simp; omega⟩
theorem run_checkKey_int' {P : Program} {kt : TypeId} {kk : IntKind} (h : YV P kt kk) (e : Bool) (n : Nat) (k : Int) (w : World) : (Instr.checkKey e (n + 1) kt (.int kk k)).run P w = .ok () w := by
 simp [Instr.checkKey, underlying, h.out]
theorem run_checkKey_int {P : Program} {kt : TypeId} {kk : IntKind} (h : YV P kt kk) (e : Bool) (k : Int) (w : World) : (Instr.checkKey e 10000 kt (.int kk k)).run P w = .ok () w :=
 run_checkKey_int' h e 9999 k w
theorem run_lookup_int {P : Program} {t kt e : TypeId} {kk : IntKind} {z : Value} (hM : TyMap P t kt e) (hK : YV P kt kk) (hz : Zw P e z) {w : World} {b : Nat} {es : List MapEntry} {ck : Nat}
  (hb : w.heap[b]? = some (.map ⟨es⟩ ck)) (hes : YU kk es) (k : Int) (ok : Bool) :
  (Instr.lookup t (.map (some b)) (.int kk k) ok).run P w = .ok (if ok then .tuple #[(Xe es k).getD z, .bool (Xe es k).isSome] else (Xe es k).getD z) w := by
 have hck := fun e => run_checkKey_int hK e k w
 have hfk : (Instr.findKey kt (.int kk k) es).run P w = .ok ((Instr.findNow (.int kk) (.int kk k) es 0).getD none) w ∧ True := by
  refine ⟨?_, trivial⟩
  simp only [Instr.findKey, Sem.run_bind, underlying, run_program, Result.andThen_ok, hK.out, Sem.run_pure]
  rcases findNow_int (k := k) es 0 hes with ⟨h1, h2⟩ | ⟨pre, e', post, h0, h1, h2, h3, h4⟩
  ·simp [h2]
  ·simp [h4]
 rcases findNow_int (k := k) es 0 hes with ⟨h1, h2⟩ | ⟨pre, e', post, h0, h1, h2, h3, h4⟩
 ·rw [h2] at hfk
  cases ok <;> simp [Instr.lookup, underlying, hM.out, MapKept.run_getObj_map hb, hck, hfk.1, Xx hz, h1]
 ·rw [h4] at hfk
  cases ok <;> simp [Instr.lookup, underlying, hM.out, MapKept.run_getObj_map hb, hck, hfk.1, h3]
theorem y_lookup_ok {m i : Operand} {t kt e b : Nat} {kk : IntKind} {z : Value} {es : List MapEntry} {ck : Nat} {k : Int} (hm : ev E m = some (.map (some b))) (hi : ev E i = some (.int kk k)) [hM : TyMap x.P t kt e] [hK : YV x.P kt kk] [hz : Zw x.P e z]
  [hF : Find b L (.map ⟨es⟩ ck)] (hes : YU kk es) : Yl x (.lookup t m i true) ty E ρ L (.tuple #[(Xe es k).getD z, .bool (Xe es k).isSome]) := fun a w _ _ _ _ ha hw => by
 simp only [execOp, ha.eval hm, ha.eval hi, Sem.run_bind, run_lookup_int hM hK hz (hw.find hF) hes, Result.andThen_ok, Sem.run_pure, if_true]
theorem y_lookup {m i : Operand} {t kt e b : Nat} {kk : IntKind} {z : Value} {es : List MapEntry} {ck : Nat} {k : Int} (hm : ev E m = some (.map (some b))) (hi : ev E i = some (.int kk k)) [hM : TyMap x.P t kt e] [hK : YV x.P kt kk] [hz : Zw x.P e z]
  [hF : Find b L (.map ⟨es⟩ ck)] (hes : YU kk es) : Yl x (.lookup t m i false) ty E ρ L ((Xe es k).getD z) := fun a w _ _ _ _ ha hw => by
 simp only [execOp, ha.eval hm, ha.eval hi, Sem.run_bind, run_lookup_int hM hK hz (hw.find hF) hes, Result.andThen_ok, Sem.run_pure, Bool.false_eq_true, if_false]
theorem y_lookup_ok2 {m i : Operand} {t kt e b : Nat} {kk : IntKind} {z : Value} {es : List MapEntry} {ck : Nat} {k : Int} {r : Option Value} (hm : ev E m = some (.map (some b))) (hi : ev E i = some (.int kk k)) [hM : TyMap x.P t kt e] [hK : YV x.P kt kk] [hz : Zw x.P e z]
  [hF : Find b L (.map ⟨es⟩ ck)] (hes : YU kk es) (hg : Xe es k = r) : Yl x (.lookup t m i true) ty E ρ L (.tuple ⟨[r.getD z, .bool r.isSome]⟩) := by
 subst hg; exact y_lookup_ok hm hi hes
theorem y_lookup2 {m i : Operand} {t kt e b : Nat} {kk : IntKind} {z : Value} {es : List MapEntry} {ck : Nat} {k : Int} {v : Value} (hm : ev E m = some (.map (some b))) (hi : ev E i = some (.int kk k)) [hM : TyMap x.P t kt e] [hK : YV x.P kt kk] [hz : Zw x.P e z]
  [hF : Find b L (.map ⟨es⟩ ck)] (hes : YU kk es) (hg : Xe es k = some v) : Yl x (.lookup t m i false) ty E ρ L v := by
 have := y_lookup (x := x) (ty := ty) (ρ := ρ) hm hi (hM := hM) (hK := hK) (hz := hz) (hF := hF) hes
 rw [hg] at this; exact this
theorem mget_append (pre post : List MapEntry) (k : Int) : Xe (pre ++ post) k = (Xe pre k).or (Xe post k) := by
 unfold Xe
 rw [List.find?_append]
 cases (pre.find? _) <;> simp
theorem run_mapUpdate_int {P : Program} {t kt e : TypeId} {kk : IntKind} (hM : TyMap P t kt e) (hK : YV P kt kk) {w : World} {b : Nat} {es : List MapEntry} {ck : Nat}
  (hb : w.heap[b]? = some (.map ⟨es⟩ ck)) (hes : YU kk es) (k : Int) (v : Value) :
  ∃ es' ck', (Instr.mapUpdate t (.map (some b)) (.int kk k) v).run P w = .ok () (putB w b (.map ⟨es'⟩ ck')) ∧ YU kk es' ∧ ∀ j, Xe es' j = if j = k then some v else Xe es j := by
 have hck := fun e => run_checkKey_int hK e k w
 have hfk : (Instr.findKey kt (.int kk k) es).run P w = .ok ((Instr.findNow (.int kk) (.int kk k) es 0).getD none) w ∧ True := by
  refine ⟨?_, trivial⟩
  simp only [Instr.findKey, Sem.run_bind, underlying, run_program, Result.andThen_ok, hK.out, Sem.run_pure]
  rcases findNow_int (k := k) es 0 hes with ⟨h1, h2⟩ | ⟨pre, e', post, h0, h1, h2, h3, h4⟩
  ·simp [h2]
  ·simp [h4]
 rcases findNow_int (k := k) es 0 hes with ⟨h1, h2⟩ | ⟨pre, e', post, rfl, h1, h2, h3, h4⟩
 ·rw [h2] at hfk
  refine ⟨es ++ [{ key := .int kk k, val := v, born := ck }], ck + 1, ?_, ?_, ?_⟩
  ·simp [Instr.mapUpdate, underlying, hM.out, MapKept.run_getObj_map hb, hck, hfk.1, MapKept.run_setObj_map _ hb, putB]
  ·intro e he
   rcases List.mem_append.1 he with he | he
   ·exact hes e he
   ·simp only [List.mem_singleton] at he; subst he; exact ⟨k, rfl⟩
  ·intro j
   rw [mget_append]
   by_cases hj : j = k
   ·subst hj; rw [h1]; simp [Xe]
   ·rw [if_neg hj]
    have : Xe [({ key := .int kk k, val := v, born := ck } : MapEntry)] j = none := by
     have : (k == j) = false := by simpa using fun e : k = j => hj e.symm
     simp [Xe, this]
    rw [this]; simp
 ·rw [h4] at hfk
  have hstay : (Instr.keyThatStays (.int kk k) (.int kk k)).run P w = .ok (.int kk k) w := by
   have : Instr.sameBits 10000 (.int kk k) (.int kk k) = true := by simp [Instr.sameBits]
   simp [Instr.keyThatStays, this]
  refine ⟨pre ++ { e' with key := .int kk k, val := v } :: post, ck, ?_, ?_, ?_⟩
  ·have hmod : (Array.mk (pre ++ e' :: post)).modify pre.length (fun e => { e with key := .int kk k, val := v }) = ⟨pre ++ { e' with key := .int kk k, val := v } :: post⟩ := by
    apply Array.ext_getElem?
    intro i
    rw [Array.getElem?_modify]
    simp only [List.getElem?_toArray]
    rcases Nat.lt_trichotomy i pre.length with hi | hi | hi
    ·rw [if_neg (by omega), List.getElem?_append_left hi, List.getElem?_append_left hi]
    ·subst hi; simp
    ·rw [if_neg (by omega), List.getElem?_append_right (by omega), List.getElem?_append_right (by omega)]
     have : i - pre.length = (i - pre.length - 1) + 1 := by omega
     rw [this]; simp
   have hmod' := congrArg Array.toList hmod
   simp only [Array.toList_modify] at hmod'
   simp [Instr.mapUpdate, underlying, hM.out, MapKept.run_getObj_map hb, hck, hfk.1, MapKept.run_setObj_map _ hb, putB, h1, hstay, hmod']
  ·intro e he
   rcases List.mem_append.1 he with he | he
   ·exact hes e (by simp [he])
   ·rcases List.mem_cons.1 he with rfl | he
    ·exact ⟨k, rfl⟩
    ·exact hes e (by simp [he])
  ·intro j
   rw [mget_append, mget_append]
   by_cases hj : j = k
   ·subst hj; rw [h2]; simp [Xe]
   ·rw [if_neg hj]
    have hkj : (k == j) = false := by simpa using fun e : k = j => hj e.symm
    congr 1
    simp [Xe, List.find?_cons, h1, hkj]
theorem Xu {m i p : Operand} {t kt e b : Nat} {kk : IntKind} {es : List MapEntry} {ck : Nat} {k : Int} {v : Value} {f : Obj → SH} (hm : ev E m = some (.map (some b))) (hi : ev E i = some (.int kk k)) (hp : ev E p = some v)
  [hM : TyMap x.P t kt e] [hK : YV x.P kt kk] [hU : Upd b L (.map ⟨es⟩ ck) f] (hes : YU kk es)
  (kk' : ∀ es' ck', YU kk es' → (∀ j, Xe es' j = if j = k then some v else Xe es j) → TL x ops rest Q E ρ (f (.map ⟨es'⟩ ck'))) :
  TL x ops (⟨none, .mapUpdate t m i p, ty, pos, af, none⟩ :: rest) Q E ρ L := fun a w ha hw => by
 refine Yg rfl rfl ?_
 obtain ⟨es', ck', hrun, h1, h2⟩ := run_mapUpdate_int hM hK (hw.upd hU (.map ⟨es⟩ ck)).2 hes k v
 have hs := (hw.upd hU (.map ⟨es'⟩ ck')).1
 have : (execOp a.eval ⟨none, .mapUpdate t m i p, ty, pos, af, none⟩).run x.P w = .ok .skip (putB w b (.map ⟨es'⟩ ck')) := by
  simp only [execOp, ha.eval hm, ha.eval hi, ha.eval hp, Sem.run_bind, hrun, Result.andThen_ok, Sem.run_pure]
 rw [this]
 exact kk' es' ck' h1 h2 _ _ (ha.put_none undef) hs
end
def Spec (P : Program) (f : FuncId) (args : List Value) (ρ : Hp) (L : SH) (Post : Value → Hp → SH → Prop) : Prop :=
 ∀ u R w, Sat u ρ (L ++ R) w → CallsIn Fence.wide 0 P f ⟨args⟩ w (fun e w' => ∃ v ρ' L', e = .returned v ∧ ρ.le ρ' ∧ Sat u ρ' (L' ++ R) w' ∧ Post v ρ' L')
theorem Spec.mono {P f args ρ L} {Post Post' : Value → Hp → SH → Prop} (h : Spec P f args ρ L Post) (k : ∀ v ρ' L', ρ.le ρ' → Post v ρ' L' → Post' v ρ' L') : Spec P f args ρ L Post' :=
 fun u R w hw => (h u R w hw).mono fun e w' ⟨v, ρ', L', h1, h2, h3, h4⟩ => ⟨v, ρ', L', h1, h2, h3, k _ _ _ h2 h4⟩
theorem Spec.frame {P f args ρ L} {Post : Value → Hp → SH → Prop} (h : Spec P f args ρ L Post) (F : SH) : Spec P f args ρ (L ++ F) (fun v ρ' L' => ∃ L1, L' = L1 ++ F ∧ Post v ρ' L1) := fun u R w hw => by
 refine (h u (F ++ R) w (by rw [← List.append_assoc]; exact hw)).mono ?_
 rintro e w' ⟨v, ρ', L', h1, h2, h3, h4⟩
 exact ⟨v, ρ', L' ++ F, h1, h2, by rw [List.append_assoc]; exact h3, L', rfl, h4⟩
class Yk (P : Program) (f : FuncId) : Prop where
 out : ∃ fn, P.funcs[f]? = some fn ∧ (fn.name == "runtime.NumGoroutine") = false ∧ fn.body.isNone = false
theorem run_callFunc {P : Program} {f : FuncId} (h : Yk P f) (args : Array Value) (w : World) : (callFunc f args).run P w = .ok (.enter f args) w := by
 obtain ⟨fn, h1, h2, h3⟩ := h.out
 simp only [callFunc, Sem.run_bind, run_program, Result.andThen_ok, h1, h2, h3, Bool.false_eq_true, if_false, Sem.run_pure]
section
variable {x : Cx} {Q : Exit → Act → World → Prop} {E : Env} {ρ : Hp} {L : SH} {ops : Array Oper} {rest : List Oper} {ty : TypeId} {pos : String} {af : Array Edge}
theorem calls_ro {ro : Option Nat} {P f args w R} (h : CallsIn Fence.wide 0 P f args w R) : CallsIn (Fw ro) 0 P f args w R := h
theorem Ze (f : Operand) {d : Option Nat} {xs : Array Operand} {ats : Array TypeId} (h : TL x ops (⟨d, .call { callee := .value f, args := xs, argTypes := ats }, ty, pos, af, none⟩ :: rest) Q E ρ L) :
  TL x ops (⟨d, .call { callee := .value f, args := xs, argTypes := ats }, ty, pos, af, none⟩ :: rest) Q E ρ L := h
theorem tl_call {d g : Nat} {f : Operand} {xs : List Operand} {ats : Array TypeId} {fs cs vs : List Value} {Lf R : SH} {Post : Value → Hp → SH → Prop} (hf : ev E f = some (.func (.func g) ⟨fs⟩ ⟨cs⟩)) (hv : evs E xs = some vs) [hF : Yk x.P g]
  (S : Spec x.P g (fs ++ vs ++ cs) ρ Lf Post) (hT : Xo L Lf R) (hd : Nat.blt d x.N = true)
  (k : ∀ v ρ' L', ρ.le ρ' → Post v ρ' L' → TL x ops rest Q ((d, v) :: E) ρ' (L' ++ R)) :
  TL x ops (⟨some d, .call { callee := .value f, args := ⟨xs⟩, argTypes := ats }, ty, pos, af, none⟩ :: rest) Q E ρ L := fun a w ha hw => by
 refine Yg rfl rfl ?_
 have hargs : Array.map a.eval (⟨xs⟩ : Array Operand) = ⟨vs⟩ := by rw [List.map_toArray, ha.evals hv]
 have hrun : (execOp a.eval ⟨some d, .call { callee := .value f, args := ⟨xs⟩, argTypes := ats }, ty, pos, af, none⟩).run x.P w = .ok (.enter g ⟨fs ++ vs ++ cs⟩) w := by
  simp only [execOp, resolve, hargs, ha.eval hf, Deferred.ofValue, Sem.run_bind, Sem.run_pure, Result.andThen_ok, invoke]
  have := run_callFunc hF (⟨fs⟩ ++ ⟨vs⟩ ++ ⟨cs⟩) w
  simpa using this
 rw [hrun, Oper.uponIn_enter]
 refine ⟨fun h => by simp [Fw, Fence.wide] at h, ?_⟩
 refine calls_ro ((S x.u R w (hw.perm hT.out)).mono ?_)
 rintro e w' ⟨v, ρ', L', rfl, h2, h3, h4⟩
 exact k v ρ' L' h2 h4 _ _ (ha.put (Nat.le_of_ble_eq_true hd) v) h3
def YY (P : Program) (l : Nat) (args : List Value) (ρ : Hp) (L : SH) (Post : Bool → Hp → SH → Prop) : Prop :=
 ∀ u R w, Sat u ρ (L ++ R) w → YieldAt Fence.wide 0 P l ⟨args⟩ w (fun e w' => ∃ b ρ' L', e = .returned (.bool b) ∧ ρ.le ρ' ∧ Sat u ρ' (L' ++ R) w' ∧ Post b ρ' L')
theorem tl_yield {d l : Nat} {f : Operand} {xs : List Operand} {ats : Array TypeId} {vs : List Value} {Lf R : SH} {Post : Bool → Hp → SH → Prop} (hf : ev E f = some (.func (.yield l) ⟨[]⟩ ⟨[]⟩)) (hv : evs E xs = some vs)
  (S : YY x.P l vs ρ Lf Post) (hT : Xo L Lf R) (hd : Nat.blt d x.N = true)
  (k : ∀ b ρ' L', ρ.le ρ' → Post b ρ' L' → TL x ops rest Q ((d, .bool b) :: E) ρ' (L' ++ R)) :
  TL x ops (⟨some d, .call { callee := .value f, args := ⟨xs⟩, argTypes := ats }, ty, pos, af, none⟩ :: rest) Q E ρ L := fun a w ha hw => by
 refine Yg rfl rfl ?_
 obtain ⟨fn, tmps, assign, body, hy, hR⟩ := S x.u R w (hw.perm hT.out)
 have hargs : Array.map a.eval (⟨xs⟩ : Array Operand) = ⟨vs⟩ := by rw [List.map_toArray, ha.evals hv]
 have hrun : (execOp a.eval ⟨some d, .call { callee := .value f, args := ⟨xs⟩, argTypes := ats }, ty, pos, af, none⟩).run x.P w = .ok (.round l fn tmps assign body) w := by
  simp only [execOp, resolve, hargs, ha.eval hf, Deferred.ofValue, Sem.run_bind, Sem.run_pure, Result.andThen_ok, invoke]
  have e : (#[] : Array Value) ++ (⟨vs⟩ : Array Value) = ⟨vs⟩ := by simp
  have : (Array.mk ([] : List Value)) ++ (⟨vs⟩ : Array Value) = ⟨vs⟩ := by simp
  rw [this, hy]
 rw [hrun, Oper.uponIn_round]
 refine ⟨fun h => by simp [Fw, Fence.wide] at h, ?_⟩
 have hR' : RoundIn (Fw x.ro) 0 x.P l fn tmps assign body w _ := hR
 refine hR'.mono ?_
 rintro e w' ⟨b, ρ', L', rfl, h2, h3, h4⟩
 exact k b ρ' L' h2 h4 _ _ (ha.put (Nat.le_of_ble_eq_true hd) _) h3
def R1 (x : Cx) (E : Env) (ρ : Hp) (L : SH) (r : ResultVar) (v : Value) : Prop :=
 ∀ a w, Ok x.D x.N E a → Sat x.u ρ L w → (match r with | .tmp t => pure (a.tmps.getD t undef) | .cell q t => do loadVar t (← asAddr (a.tmps.getD q undef)) : Sem Value).run x.P w = .ok v w
theorem Yu {t : Nat} {v : Value} (h : lk E t = some v) : R1 x E ρ L (.tmp t) v := fun a w ha hw => by
 simp [ha.get t v h]
theorem Yi {q t b n : Nat} {l : List Value} {T : TypeId} {fr : Nat × Nat} (h : lk E q = some (.pointer (some ⟨b, 0, none⟩))) [hA : TyA x.P t n] [hF : Find b L (.cells ⟨l⟩ T fr)] (hn : l.length = n) : R1 x E ρ L (.cell q t) (.agg ⟨l⟩) := fun a w ha hw => by
 have := Ws (off := 0) hA (hw.find hF) (by omega)
 rw [List.drop_zero, List.take_of_length_le (by omega)] at this
 simp only [Instr.loadAt, Instr.sureAddr, Sem.run_bind, Sem.run_pure, Result.andThen_ok] at this
 simp [ha.get q _ h, asAddr, this]
theorem ZP {q t b : Nat} {C : Array Value} {T : TypeId} {fr : Nat × Nat} {v : Value} (h : lk E q = some (.pointer (some ⟨b, 0, none⟩))) [hA : TyS x.P t] [hF : Find b L (.cells C T fr)] (hn : C[0]? = some v) : R1 x E ρ L (.cell q t) v := fun a w ha hw => by
 have := run_loadAt_cell hA (hw.find hF) hn
 simp only [Instr.loadAt, Instr.sureAddr, Sem.run_bind, Sem.run_pure, Result.andThen_ok] at this
 simp [ha.get q _ h, asAddr, this]
def RK (u : World) (ρ0 : Hp) (R : SH) (Post : Value → Hp → SH → Prop) : Ending → World → Prop := fun e w' => ∃ v ρ' L', e = .returned v ∧ ρ0.le ρ' ∧ Sat u ρ' (L' ++ R) w' ∧ Post v ρ' L'
class Ends (G : SH) (R : SH) : Prop where
 out : List.Sublist R.flatten G.flatten
instance (priority := 1100) Ends.refl {R : SH} : Ends R R := ⟨List.Sublist.refl _⟩
instance (priority := 900) Ends.cons {G R : SH} {c : List (Nat × Obj)} [h : Ends G R] : Ends (c :: G) R := ⟨by
 simp only [List.flatten_cons]; exact h.out.trans (List.sublist_append_right _ _)⟩
theorem Sat.ends {u ρ w} {L L' G R : SH} (h : Sat u ρ L w) (k : Xo L L' G) (e : Ends G R) : Sat u ρ (L' ++ R) w := by
 refine (h.perm k.out).sub ?_
 simp only [List.flatten_append]
 exact List.Sublist.append (List.Sublist.refl _) e.out
def isEnd : Exit → Bool
 | .normal | .ret => true
 | _ => false
theorem te_end {e : Exit} {fn : Func} {u : World} {ρ0 : Hp} {R : SH} {Post : Value → Hp → SH → Prop} {L' G : SH} {v : Value} (he : isEnd e = true) (hD : x.D = []) (hu : x.u = u) (hr : ∀ a w, Ok x.D x.N E a → Sat x.u ρ L w → (results fn a.tmps).run x.P w = .ok v w)
  (hle : ρ0.le ρ) (k : Xo L L' G) (en : Ends G R) (hp : Post v ρ L') : TE x e (bodyPostM (Fw none) 0 x.P fn (RK u ρ0 R Post)) E ρ L := fun a w ha hw => by
 subst hu
 have h := hr a w ha hw
 have hd := ha.defers
 rw [hD] at hd
 cases e <;> simp only [isEnd, Bool.false_eq_true] at he <;> simp only [bodyPostM, hd, LeavesInM, LeavesIn] <;> exact ⟨v, h, v, ρ, L', rfl, hle, hw.ends k en, hp⟩
def resG (tmps : Array Value) : ResultVar → Sem Value := fun
 | .tmp t => pure (tmps.getD t undef)
 | .cell q t => do loadVar t (← asAddr (tmps.getD q undef))
theorem R1.run {r : ResultVar} {v : Value} (h : R1 x E ρ L r v) {a w} (ha : Ok x.D x.N E a) (hw : Sat x.u ρ L w) : (resG a.tmps r).run x.P w = .ok v w := by
 have := h a w ha hw
 cases r <;> exact this
theorem results_eq (fn : Func) (tmps : Array Value) : results fn tmps = (fn.results.mapM (resG tmps) >>= fun vs => pure (if h : vs.size = 1 then vs[0] else .tuple vs)) := rfl
theorem res0 {fn : Func} (h : fn.results = #[]) : ∀ a w, Ok x.D x.N E a → Sat x.u ρ L w → (results fn a.tmps).run x.P w = .ok (.tuple ⟨[]⟩) w := fun a w _ _ => by
 simp [results, h]
theorem res1 {fn : Func} {r : ResultVar} {v : Value} (h : fn.results = #[r]) (h1 : R1 x E ρ L r v) : ∀ a w, Ok x.D x.N E a → Sat x.u ρ L w → (results fn a.tmps).run x.P w = .ok v w := fun a w ha hw => by
 rw [results_eq, h]
 simp [h1.run ha hw]
theorem res2 {fn : Func} {r s : ResultVar} {v u : Value} (h : fn.results = #[r, s]) (h1 : R1 x E ρ L r v) (h2 : R1 x E ρ L s u) : ∀ a w, Ok x.D x.N E a → Sat x.u ρ L w → (results fn a.tmps).run x.P w = .ok (.tuple ⟨[v, u]⟩) w := fun a w ha hw => by
 rw [results_eq, h]
 simp [h1.run ha hw, h2.run ha hw]
theorem res3 {fn : Func} {r s t : ResultVar} {v u z : Value} (h : fn.results = #[r, s, t]) (h1 : R1 x E ρ L r v) (h2 : R1 x E ρ L s u) (h3 : R1 x E ρ L t z) : ∀ a w, Ok x.D x.N E a → Sat x.u ρ L w → (results fn a.tmps).run x.P w = .ok (.tuple ⟨[v, u, z]⟩) w := fun a w ha hw => by
 rw [results_eq, h]
 simp [h1.run ha hw, h2.run ha hw, h3.run ha hw]
def Zx : Nat → List Value → Env
 | _, [] => []
 | k, v :: r => (k, v) :: Zx (k + 1) r
theorem lk_argsE : ∀ (vs : List Value) (k t : Nat) (v : Value), lk (Zx k vs) t = some v → k ≤ t ∧ vs[t - k]? = some v
 | [], k, t, v, h => by cases h
 | u :: r, k, t, v, h => by
  simp only [Zx, lk] at h
  cases hb : Nat.beq k t with
  | true =>
   rw [hb] at h
   have e : k = t := Nat.eq_of_beq_eq_true hb
   subst e
   simp only [Option.some.injEq] at h
   simp [h]
  | false =>
   rw [hb] at h
   obtain ⟨h1, h2⟩ := lk_argsE r (k + 1) t v h
   refine ⟨by omega, ?_⟩
   have e : t - k = (t - (k + 1)) + 1 := by omega
   rw [e]; simpa using h2
theorem Zg {P : Program} {f N : Nat} {fn : Func} {c : Code} {args : List Value} {Post : Value → Hp → SH → Prop} (hf : P.funcs[f]? = some fn) (hb : fn.body = some c) (hN : fn.ntmps = N) (hl : Nat.ble args.length N = true)
  (h : ∀ u R, TC ⟨none, P, u, [], N⟩ c (bodyPostM (Fw none) 0 P fn (RK u ρ R Post)) (Zx 0 args) ρ (L ++ R)) : Spec P f args ρ L Post := fun u R w hw => by
 refine callsIn_of_wp_marks hf hb trivial ?_ rfl
 have hl' := Nat.le_of_ble_eq_true hl
 refine h u R _ w ⟨rfl, ?_, fun t v ht => ?_⟩ hw
 ·simp [hN]; omega
 ·obtain ⟨_, h2⟩ := lk_argsE args 0 t v ht
  have h2' : args[t]? = some v := by simpa using h2
  have hlt : t < args.length := (List.getElem?_eq_some_iff.1 h2').1
  rw [Array.getElem?_append_left (by simpa using hlt)]
  simpa using h2'
end
end Go.Proofs.E
namespace Go.Proofs.E
open Go
set_option linter.unusedVariables false
def isAggD : TypeDesc → Bool
 | .struct _ | .array _ _ => true
 | _ => false
theorem mkTyS {P : Program} {t : TypeId} (h : (P.underlying t).map isAggD = some false) (k : (P.info? t).map (·.size) = some 1) : TyS P t := by
 obtain ⟨d, hd, he⟩ := Option.map_eq_some_iff.1 h
 obtain ⟨i, hi, hj⟩ := Option.map_eq_some_iff.1 k
 exact ⟨d, i, hd, by cases d <;> simp_all [isAggD], hi, hj⟩
theorem mkTyA {P : Program} {t : TypeId} {n : Nat} (h : (P.underlying t).map isAggD = some true) (k : (P.info? t).map (·.size) = some n) : TyA P t n := by
 obtain ⟨d, hd, he⟩ := Option.map_eq_some_iff.1 h
 obtain ⟨i, hi, hj⟩ := Option.map_eq_some_iff.1 k
 exact ⟨d, i, hd, by cases d <;> simp_all [isAggD], hi, hj⟩
theorem mkTySz {P : Program} {t : TypeId} {n : Nat} (k : (P.info? t).map (·.size) = some n) : ZJ P t n := by
 obtain ⟨i, hi, hj⟩ := Option.map_eq_some_iff.1 k
 exact ⟨i, hi, hj⟩
theorem mkTyBytes {P : Program} {t : TypeId} {n : Nat} (k : (P.info? t).map (·.bytes) = some n) : Zu P t n := by
 obtain ⟨i, hi, hj⟩ := Option.map_eq_some_iff.1 k
 exact ⟨i, hi, hj⟩
theorem mkTyZero {P : Program} {t : TypeId} {z : Value} (k : (P.info? t).bind (·.zero) = some z) : Zw P t z := by
 obtain ⟨i, hi, hj⟩ := Option.bind_eq_some_iff.1 k
 exact ⟨i, hi, hj⟩
def isFuncD : TypeDesc → Bool
 | .func _ _ _ => true
 | _ => false
theorem mkTyFunc {P : Program} {t : TypeId} (h : (P.underlying t).map isFuncD = some true) : Yy P t := by
 obtain ⟨d, hd, he⟩ := Option.map_eq_some_iff.1 h
 cases d <;> simp [isFuncD] at he
 exact ⟨_, _, _, hd⟩
def fldB (P : Program) (s f : Nat) : Option (Nat × Nat) :=
 match P.underlying s with
 | some (.struct fs) => match fs[f]? with
  | some fd => match P.info? fd.type with
   | some i => match i.size with | 0 => none | _ + 1 => some (fd.offset, fd.type)
   | none => none
  | none => none
 | _ => none
theorem mkFld {P : Program} {s : TypeId} {f off : Nat} {ft : TypeId} (h : fldB P s f = some (off, ft)) : Ys P s f off ft := by
 unfold fldB at h
 split at h
 ·rename_i fs hs
  split at h
  ·rename_i fd hf
   split at h
   ·rename_i i hi
    split at h
    ·cases h
    ·rename_i n hn
     simp only [Option.some.injEq, Prod.mk.injEq] at h
     obtain ⟨rfl, rfl⟩ := h
     exact ⟨fs, fd, i, hs, hf, rfl, rfl, hi, by omega⟩
   ·cases h
  ·cases h
 ·cases h
def placesB (P : Program) (t : Nat) : Option (List (Nat × Nat)) :=
 match P.underlying t with
 | some (.struct fs) => fs.toList.mapM fun f => (P.info? f.type).map fun i => (f.offset, i.size)
 | _ => none
theorem mapM_places {P : Program} : ∀ (fs : List Field) (ps : List (Nat × Nat)), (fs.mapM fun f => (P.info? f.type).map fun i => (f.offset, i.size)) = some ps →
  ∀ w, (fs.mapM fun f => do pure (f.offset, ← sizeOf f.type) : Sem (List (Nat × Nat))).run P w = .ok ps w
 | [], ps, h, w => by simp at h; simp [h]
 | f :: r, ps, h, w => by
  simp only [List.mapM_cons, Option.bind_eq_bind, Option.bind_eq_some_iff, Option.map_eq_some_iff] at h
  obtain ⟨p, ⟨i, hi, rfl⟩, qs, hq, hp⟩ := h
  have hp' : (f.offset, i.size) :: qs = ps := by simpa using hp
  subst hp'
  have ih := mapM_places r qs hq w
  simp only [List.mapM_cons, Sem.run_bind, sizeOf, typeInfo, run_program, Result.andThen_ok, hi, Sem.run_pure] at ih ⊢
  simp only [ih, Result.andThen_ok]
theorem ZH {P : Program} {t : TypeId} {ps : List (Nat × Nat)} (h : placesB P t = some ps) : ZM P t (ps[·]?) := by
 unfold placesB at h
 split at h
 ·rename_i fs hs
  refine ⟨.inl ⟨fs, hs, ⟨ps⟩, fun w => ?_, ?_⟩⟩
  ·have := mapM_places fs.toList ps h w
   rw [Array.mapM_eq_mapM_toList]
   simp only [Sem.run_map, this, Result.andThen_ok]
  ·funext i; simp
 ·cases h
theorem mkTyPlacesA {P : Program} {t : TypeId} {n : Nat} {e : TypeId} {sz : Nat} (h : P.underlying t = some (.array n e)) (k : (P.info? e).map (·.size) = some sz) : ZM P t (fun i => some (i * sz, sz)) := by
 obtain ⟨i, hi, hj⟩ := Option.map_eq_some_iff.1 k
 exact ⟨.inr ⟨n, e, sz, h, fun w => by simp [sizeOf, typeInfo, hi, hj], rfl⟩⟩
def funB (P : Program) (f : Nat) : Bool :=
 match P.funcs[f]? with
 | some fn => !(fn.name == "runtime.NumGoroutine") && !fn.body.isNone
 | none => false
theorem mkFun {P : Program} {f : FuncId} (h : funB P f = true) : Yk P f := by
 unfold funB at h
 split at h
 ·rename_i fn hf
  simp only [Bool.and_eq_true, Bool.not_eq_true'] at h
  exact ⟨fn, hf, h.1, h.2⟩
 ·cases h
end Go.Proofs.E
namespace Go.Proofs.E
open Go
set_option linter.unusedVariables false
set_option linter.unusedSimpArgs false
section
variable {P : Program} {ops : Array Oper} {md : Region.Mode} {w : World} {ro : Option Nat}
end
class Mixed (P : Program) : Prop where
 out : P.follows .mixedOrders = true
def TS (x : Cx) (ops : Array Oper) (l tail : List Oper) (Q : Exit → Act → World → Prop) (E : Env) (ρ : Hp) (L : SH) : Prop :=
 ∀ a w, Ok x.D x.N E a → Sat x.u ρ L w → wpStill x.P ops w (fun a' => wpListIn (Fw x.ro) 0 x.P ops Q tail a' w) l a
section
variable {x : Cx} {Q : Exit → Act → World → Prop} {E : Env} {ρ : Hp} {L : SH} {ops : Array Oper} {rest tail : List Oper} {ty : TypeId} {pos : String} {af : Array Edge}
end
structure OwnS (v : Value) (n : Nat) (xs sp : List Value) (sz : Nat) : Prop where
 out : (v = .slice none 0 0 ∧ n = 0 ∧ xs = [] ∧ sp = []) ∨ ∃ b cap, v = .slice (some ⟨b, 0, none⟩) n cap ∧ xs.length = n * sz ∧ xs.length + sp.length = cap * sz ∧ n ≤ cap
def ZN (v : Value) (xs sp : List Value) (T : TypeId) : List (Nat × Obj) :=
 match v with
 | .slice (some a) _ _ => [(a.block, .cells ⟨xs ++ sp⟩ T (0, 0))]
 | _ => []
theorem OwnS.nil (sz : Nat) : OwnS (.slice none 0 0) 0 [] [] sz := ⟨.inl ⟨rfl, rfl, rfl, rfl⟩⟩
theorem OwnS.len {v n xs sp sz} (h : OwnS v n xs sp sz) : ∃ a cap, v = .slice a n cap ∧ xs.length = n * sz := by
 rcases h.out with ⟨rfl, rfl, rfl, rfl⟩ | ⟨b, cap, rfl, h1, h2, h3⟩
 ·exact ⟨none, 0, rfl, by simp⟩
 ·exact ⟨_, cap, rfl, h1⟩
def Src (x : Cx) (ρ : Hp) (L : SH) (b off : Nat) (ys : List Value) : Prop := ∀ w, Sat x.u ρ L w → ∀ j c, ys[j]? = some c → w.cell? ⟨b, off + j, none⟩ = some c
section
variable {x : Cx} {Q : Exit → Act → World → Prop} {E : Env} {ρ : Hp} {L L1 : SH} {ops : Array Oper} {rest tail : List Oper} {ty : TypeId} {pos : String} {af : Array Edge}
theorem cell_row {w : World} {b off n : Nat} {l ys : List Value} {T : TypeId} {fr : Nat × Nat} (hb : w.heap[b]? = some (.cells ⟨l⟩ T fr)) (h : (l.drop off).take n = ys) (j : Nat) (c : Value) (hj : ys[j]? = some c) : w.cell? ⟨b, off + j, none⟩ = some c := by
 simp only [World.cell?, hb, Option.isSome_none, Bool.false_eq_true, if_false]
 rw [← h] at hj
 have hlt : j < n := by have := (List.getElem?_eq_some_iff.1 hj).1; simp at this; omega
 rw [List.getElem?_take_of_lt hlt, List.getElem?_drop] at hj
 simpa using hj
theorem Src.find {b off n : Nat} {l ys : List Value} {T : TypeId} {fr : Nat × Nat} [hF : Find b L (.cells ⟨l⟩ T fr)] (h : (l.drop off).take n = ys) : Src x ρ L b off ys :=
 fun w hw j c hj => cell_row (hw.find hF) h j c hj
theorem Src.imm {b off n : Nat} {l ys : List Value} {T : TypeId} {fr : Nat × Nat} (hF : ρ b = some (.cells ⟨l⟩ T fr)) (h : (l.drop off).take n = ys) : Src x ρ L b off ys :=
 fun w hw j c hj => cell_row (hw.imm _ _ hF) h j c hj
theorem stc_end (xs sp ys : List Value) (h : ys.length ≤ sp.length) : stc (xs ++ sp) xs.length ys = (xs ++ ys) ++ sp.drop ys.length := by
 unfold stc
 rw [List.take_left]
 have : List.drop (xs.length + ys.length) (xs ++ sp) = sp.drop ys.length := by rw [List.drop_append]; simp
 rw [this]
theorem tl_append {d t e sz by' n m bx ox cx : Nat} {s y : Operand} {v z : Value} {xs sp ys : List Value} [hS : ZT x.P t e] [hZ : ZJ x.P e sz] [hB : Zu x.P e by'] [hz : Zw x.P e z]
  (hs : ev E s = some v) (hy : ev E y = some (.slice (some ⟨bx, ox, none⟩) m cx)) (hown : OwnS v n xs sp sz) [hR : Rem (ZN v xs sp e) L L1] (hsrc : Src x ρ L1 bx ox ys) (hlen : ys.length = m * sz)
  (h1 : ys.all (·.oneCell') = true) (h0 : 0 < m) (hzs : z.cells.toList.length = sz) (hb : (n + m) * by' ≤ 140737488355328) (hm : n + m ≤ 9223372036854775807) (hd : Nat.blt d x.N = true)
  (k : ∀ v' sp', OwnS v' (n + m) (xs ++ ys) sp' sz → TL x ops rest Q ((d, v') :: E) ρ (ZN v' (xs ++ ys) sp' e :: L1)) :
  TL x ops (⟨some d, .call { callee := .builtin .append, args := #[s, y], argTypes := #[t, t] }, ty, pos, af, none⟩ :: rest) Q E ρ L := fun a w ha hw => by
 refine Yg rfl rfl ?_
 have hw' := hw.perm (L' := ZN v xs sp e :: L1) (by simpa using hR.out)
 have hwL : Sat x.u ρ L1 w := hw'.sub (by simp)
 obtain ⟨i, g1, g2⟩ := hZ.out
 obtain ⟨i2, g3, g4⟩ := hB.out
 obtain ⟨i3, g5, g6⟩ := hz.out
 rw [g1] at g3 g5
 cases g3; cases g5
 subst g2; subst g4
 have hzs' : z.cells.size = i.size := by simpa using hzs
 have hcells : ∀ j c, ys[j]? = some c → w.cell? ((⟨bx, ox, none⟩ : Addr).add j) = some c := fun j c hj => by rw [Yo]; exact hsrc w hwL j c hj
 have hone : ∀ c ∈ ys, c.oneCell' = true := fun c hc => List.all_eq_true.1 h1 c hc
 have hexec : ∀ (v' : Value) (w' : World), (Builtin.append_ #[t, t] ty #[v, .slice (some ⟨bx, ox, none⟩) m cx]).run x.P w = .ok v' w' →
   (execOp a.eval ⟨some d, .call { callee := .builtin .append, args := #[s, y], argTypes := #[t, t] }, ty, pos, af, none⟩).run x.P w = .ok (.value v') w' := fun v' w' hr => by
  simp only [execOp, resolve, Sem.run_bind, Sem.run_pure, Result.andThen_ok, invoke, builtin]
  have hargs : Array.map a.eval #[s, y] = #[v, .slice (some ⟨bx, ox, none⟩) m cx] := by simp [ha.eval hs, ha.eval hy]
  rw [hargs, hr]
  rfl
 have hgc : ∀ (w : World) (need old : Nat), need ≤ grownCap w need old e := fun w need old => by simp only [grownCap, Question.cut]; omega
 have hzl : ∀ c, (Builtin.zeroCells z.cells c).toList.length = c * i.size := fun c => by
  have := size_zeroCells z.cells c
  rw [hzs'] at this; simpa using this
 rcases hown.out with ⟨rfl, rfl, rfl, rfl⟩ | ⟨b, cap, rfl, e1, e2, e3⟩
 ·-- nil
  have hrun := run_append_nil (P := x.P) (w := w) t ty e i z hS.out g1 g6 ⟨bx, ox, none⟩ m cx ys hlen hcells h0 (by omega) (by
   have hfit : Builtin.nextslicecap (0 + m) 0 * i.bytes ≤ 281474976710656 := growslice_fits (by omega) hb
   have : Builtin.nextslicecap m 0 = m := nextslicecap_zero h0
   simp only [Nat.zero_add, this] at hfit; exact hfit)
  rw [hexec _ _ hrun]
  have hs2 := (hwL.drew).new (.cells (ys.toArray ++ Builtin.zeroCells z.cells (grownCap w m 0 e - m)) e (0, 0))
  have hg := hgc w m 0
  refine k (.slice (some ⟨w.heap.size, 0, none⟩) (0 + m) (grownCap w m 0 e)) (Builtin.zeroCells z.cells (grownCap w m 0 e - m)).toList ?_ _ _ (by
   have := ha.put (Nat.le_of_ble_eq_true hd) (.slice (some ⟨w.heap.size, 0, none⟩) m (grownCap w m 0 e)); simpa using this) ?_
  ·refine ⟨.inr ⟨w.heap.size, grownCap w m 0 e, rfl, by simpa using hlen, ?_, by omega⟩⟩
   rw [hzl]; simp only [List.nil_append, hlen, ← Nat.add_mul]
   rw [show m + (grownCap w m 0 e - m) = grownCap w m 0 e by omega]
  ·have : ZN (.slice (some ⟨w.heap.size, 0, none⟩) (0 + m) (grownCap w m 0 e)) ([] ++ ys) (Builtin.zeroCells z.cells (grownCap w m 0 e - m)).toList e = [(w.heap.size, .cells (ys.toArray ++ Builtin.zeroCells z.cells (grownCap w m 0 e - m)) e (0, 0))] := by
    simp only [ZN, List.nil_append]
    congr 3
    apply Array.ext'; simp
   rw [this]
   exact hs2
 ·have hbk := hw'.here (b, .cells ⟨xs ++ sp⟩ e (0, 0)) (by simp [ZN])
  by_cases hroom : n + m ≤ cap
  ·-- there is room
   have hylen : ys.length ≤ sp.length := by
    have : (n + m) * i.size ≤ cap * i.size := Nat.mul_le_mul_right _ hroom
    rw [Nat.add_mul] at this; omega
   have hrun := run_append_room (P := x.P) w t ty e i hS.out g1 b n cap ⟨xs ++ sp⟩ hbk ⟨bx, ox, none⟩ m cx ys hlen hcells hone hroom (by simp; omega)
   rw [hexec _ _ hrun]
   have hset : w.setRow b (List.take (n * i.size) (xs ++ sp) ++ ys ++ List.drop (n * i.size + ys.length) (xs ++ sp)).toArray = putB w b (.cells ⟨(xs ++ ys) ++ sp.drop ys.length⟩ e (0, 0)) := by
    rw [setRow_eq hbk]
    have := stc_end xs sp ys hylen
    unfold stc at this
    rw [← e1, this]
   have hs2 := hw'.put (.cells ⟨(xs ++ ys) ++ sp.drop ys.length⟩ e (0, 0))
   refine k (.slice (some ⟨b, 0, none⟩) (n + m) cap) (sp.drop ys.length) ⟨.inr ⟨b, cap, rfl, by simp [Nat.add_mul]; omega, by simp; omega, hroom⟩⟩ _ _ (ha.put (Nat.le_of_ble_eq_true hd) _) ?_
   simp only [Array.toList] at hset ⊢
   rw [hset]
   exact hs2
  ·-- a new row
   have hold : ∀ j c, xs[j]? = some c → w.cell? ((⟨b, 0, none⟩ : Addr).add j) = some c := fun j c hj => by
    rw [Yo]
    simp only [World.cell?, hbk, Option.isSome_none, Bool.false_eq_true, if_false, Nat.zero_add]
    have hlt := (List.getElem?_eq_some_iff.1 hj).1
    simp only [List.getElem?_toArray]
    rw [List.getElem?_append_left hlt]; exact hj
   have hrun := run_append_grow (P := x.P) (w := w) t ty e i z hS.out g1 g6 ⟨b, 0, none⟩ n cap xs e1 hold ⟨bx, ox, none⟩ m cx ys hlen hcells (by omega) (by omega) (growslice_fits (by omega) hb)
   rw [hexec _ _ hrun]
   have hg := hgc w (n + m) cap
   have hs2 := (hwL.drew).new (.cells (xs.toArray ++ ys.toArray ++ Builtin.zeroCells z.cells (grownCap w (n + m) cap e - (n + m))) e (0, 0))
   refine k (.slice (some ⟨w.heap.size, 0, none⟩) (n + m) (grownCap w (n + m) cap e)) (Builtin.zeroCells z.cells (grownCap w (n + m) cap e - (n + m))).toList ?_ _ _ (ha.put (Nat.le_of_ble_eq_true hd) _) ?_
   ·refine ⟨.inr ⟨w.heap.size, grownCap w (n + m) cap e, rfl, by simp [Nat.add_mul]; omega, ?_, by omega⟩⟩
    rw [hzl]; simp only [List.length_append, hlen, e1, ← Nat.add_mul]
    rw [show n + m + (grownCap w (n + m) cap e - (n + m)) = grownCap w (n + m) cap e by omega]
   ·have : ZN (.slice (some ⟨w.heap.size, 0, none⟩) (n + m) (grownCap w (n + m) cap e)) (xs ++ ys) (Builtin.zeroCells z.cells (grownCap w (n + m) cap e - (n + m))).toList e = [(w.heap.size, .cells (xs.toArray ++ ys.toArray ++ Builtin.zeroCells z.cells (grownCap w (n + m) cap e - (n + m))) e (0, 0))] := by
     simp only [ZN]
     congr 3
     apply Array.ext'; simp
    rw [this]
    exact hs2
end
end Go.Proofs.E
