/- Laws of analysis. Part 4 of 37. -/
import Derived.Test.YtkbiahafeoillaaGreatB3
import Derived.Laws.BytesString
import Derived.Laws.CopyRow
import Derived.Laws.IdiomCopy
import Derived.Lib.AppendStr
import Derived.Laws.StructEq
import Derived.Laws.Slices
import Derived.Scope
namespace Go.Proofs.E
open Go Go.Lib
set_option linter.unusedVariables false
set_option linter.unusedSimpArgs false
set_option linter.unusedSectionVars false
def noGotoQ (Q : Exit → Act → World → Prop) : Exit → Act → World → Prop
 | .goto _, _, _ => False
 | e, a, w => Q e a w
theorem Wm {P : Program} {b : Frame} {a : Act} {k : List Item} {cs : List Frame} {w : World} {c : Code} : step P (lone (b.atR a (.code (.scope c) :: k)) cs w) = .next (lone (b.atR a (.code c :: .inScope c :: k)) cs w) :=
 step_lone_go (by simp [stepG, stepG.exec, Frame.atR])
theorem stepR_inScope {P : Program} {b : Frame} {a : Act} {k : List Item} {cs : List Frame} {w : World} {c : Code} : step P (lone (b.atR a (.inScope c :: k)) cs w) = .next (lone (b.atR a k) cs w) :=
 step_lone_go (by simp [stepG, stepG.exec, Frame.atR])
theorem wpIn_scope {F : Fence} {n : Nat} {P : Program} {a : Act} {w : World} {Q : Exit → Act → World → Prop} {c : Code} (h : c.wpIn F n P (noGotoQ Q) a w) : (Code.scope c).wpIn F n P Q a w := by
 intro b k cs hro hb hr
 have h0 : (lone (b.atR a (.code (.scope c) :: k)) cs w).fenced P F := fenced_calm hb hr rfl
 obtain ⟨e, a₁, w₁, hq, harr⟩ := h b (.inScope c :: k) cs hro hb hr
 cases e with
 | normal => exact ⟨.normal, a₁, w₁, hq, .head h0 Wm (StepsIn.trans harr (.one (fenced_calm hb hr rfl) stepR_inScope))⟩
 | exit id =>
  have hx : exitTo id (.inScope c :: k) = exitTo id k := by simp [exitTo]
  exact ⟨.exit id, a₁, w₁, hq, fun k' hk => .head h0 Wm (harr.1 k' (by rw [hx]; exact hk)),
   fun hr' hk => let ⟨k₁, h1, h2⟩ := harr.2 hr' (by rw [hx]; exact hk); ⟨k₁, h1, .head h0 Wm h2⟩⟩
 | goto l => exact hq.elim
 | ret => exact ⟨_, a₁, w₁, hq, .of_steps (.one h0 Wm) harr⟩
 | panic ch => exact ⟨_, a₁, w₁, hq, .of_steps (.one h0 Wm) harr⟩
 | outgrown => exact ⟨_, a₁, w₁, hq, .of_steps (.one h0 Wm) harr⟩
section
variable {x : Cx} {Q : Exit → Act → World → Prop} {E : Env} {ρ : Hp} {L : SH}
theorem tc_scope {c : Code} (h : TC x c (noGotoQ Q) E ρ L) : TC x (.scope c) Q E ρ L := fun a w ha hw => wpIn_scope (h a w ha hw)
theorem te_scope_normal (h : TE x .normal Q E ρ L) : TE x .normal (noGotoQ Q) E ρ L := h
theorem te_scope_exit {id} (h : TE x (.exit id) Q E ρ L) : TE x (.exit id) (noGotoQ Q) E ρ L := h
theorem te_scope_ret (h : TE x .ret Q E ρ L) : TE x .ret (noGotoQ Q) E ρ L := h
end
@[reducible] def strV (l : List UInt8) : Value := .string ⟨⟨l⟩⟩
theorem YJ (l : List UInt8) : (⟨⟨l⟩⟩ : ByteArray).size = l.length := rfl
theorem str_extract (l : List UInt8) (a b : Nat) : (⟨⟨l⟩⟩ : ByteArray).extract a b = ⟨⟨(l.drop a).take (b - a)⟩⟩ := by
 apply ByteArray.ext
 simp only [ByteArray.data_extract]
 apply Array.ext'
 simp [List.extract]
theorem strCells_eq (l : List UInt8) : strCells ⟨⟨l⟩⟩ = l.map u8c := by simp [strCells, u8c]
section
variable {x : Cx} {Q : Exit → Act → World → Prop} {E : Env} {ρ : Hp} {L L1 : SH} {ops : Array Oper} {rest tail : List Oper} {ty : TypeId} {pos : String} {af : Array Edge}
theorem y_len_str {p : Operand} {t : TypeId} {l : List UInt8} [hS : TyStr x.P t] (h : ev E p = some (strV l)) : Yl x (.call { callee := .builtin .len, args := #[p], argTypes := #[t] }) ty E ρ L (.int .i64 l.length) := fun a w _ _ _ _ ha _ => by
 simp [execOp, ha.eval h, resolve, invoke, builtin, Builtin.len_, underlying, hS.out, goInt, YJ]
theorem y_slice_str_h {o h : Operand} {t : Nat} {l : List UInt8} {k : IntKind} {n : Int} (ho : ev E o = some (strV l)) (hh : ev E h = some (.int k n)) [hS : TyStr x.P t] (h0 : 0 ≤ n) (h1 : n ≤ l.length) :
  Yl x (.slice t o none (some h) none) ty E ρ L (strV (l.take n.toNat)) := fun a' w _ _ _ _ ha hw => by
 have := run_slice_string_h (P := x.P) w t ⟨⟨l⟩⟩ hS.out k n h0 (by rw [YJ]; exact h1)
 rw [str_extract, List.drop_zero, Nat.sub_zero] at this
 simp only [execOp, ha.eval ho, ha.eval hh, Option.map_some, Option.map_none, Sem.run_bind, run_sliceAt_string _ _ _ _ _ _ hS.out, this, Result.andThen_ok, Sem.run_pure]
theorem y_slice_str_l {o h : Operand} {t : Nat} {l : List UInt8} {k : IntKind} {n : Int} (ho : ev E o = some (strV l)) (hh : ev E h = some (.int k n)) [hS : TyStr x.P t] (h0 : 0 ≤ n) (h1 : n ≤ l.length) :
  Yl x (.slice t o (some h) none none) ty E ρ L (strV (l.drop n.toNat)) := fun a' w _ _ _ _ ha hw => by
 have := run_slice_string_l (P := x.P) w t ⟨⟨l⟩⟩ hS.out k n h0 (by rw [YJ]; exact h1)
 rw [str_extract, YJ, List.take_of_length_le (by simp)] at this
 simp only [execOp, ha.eval ho, ha.eval hh, Option.map_some, Option.map_none, Sem.run_bind, run_sliceAt_string _ _ _ _ _ _ hS.out, this, Result.andThen_ok, Sem.run_pure]
theorem str_beq (l m : List UInt8) : ((⟨⟨l⟩⟩ : ByteArray).toList == (⟨⟨m⟩⟩ : ByteArray).toList) = decide (l = m) := by
 rw [ByteArray.toList_eq, ByteArray.toList_eq]
 by_cases h : l = m
 ·subst h; simp
 ·simp [h]
theorem y_str_eq {o : BinOp} {p q : Operand} {t t' : TypeId} {l m : List UInt8} {r : Bool} (h1 : ev E p = some (strV l)) (h2 : ev E q = some (strV m)) (hr : eqB o (decide (l = m)) = some r) : Yl x (.binOp o t p q t') ty E ρ L (.bool r) := fun a w _ _ _ _ ha _ => by
 have hb := str_beq l m
 cases o <;> simp only [eqB, Option.some.injEq, reduceCtorEq] at hr <;> subst hr <;> simp [execOp, ha.eval h1, ha.eval h2, eqGuard, binOp, Op.stringOp, ← hb, beq_toListBytes]
def SrcV (x : Cx) (ρ : Hp) (L : SH) (a : Option Addr) (ys : List Value) : Prop := ys = [] ∨ ∃ b off, a = some ⟨b, off, none⟩ ∧ Src x ρ L b off ys
theorem y_conv_bs {p : Operand} {s t e : TypeId} {a : Option Addr} {n c : Nat} {l : List UInt8} [hT : TyStr x.P t] [hS : ZT x.P s e] [hE : YV x.P e .u8] (h : ev E p = some (.slice a n c)) (hs : SrcV x ρ L a (l.map u8c)) (hn : l.length = n) :
  Yl x (.convert s t p) ty E ρ L (strV l) := fun a' w _ _ _ _ ha hw => by
 have key : (Conv.bytesToString (.slice a n c)).run x.P w = .ok (strV l) w := by
  by_cases h0 : l = []
  ·subst h0
   have hn0 : n = 0 := by simpa using hn.symm
   subst hn0
   cases a with
   | none => simp [Conv.bytesToString]; rfl
   | some ad =>
    have hl : (loadCells ad 0).run x.P w = .ok #[] w := by simpa using run_loadCells_list (P := x.P) w ad [] (by simp)
    have := run_bytesToString (P := x.P) w ad 0 c [] hl
    simp only [List.foldl_nil] at this
    exact this
  ·obtain ⟨b, off, rfl, hsrc⟩ := hs.resolve_left (by simpa using h0)
   have hl := run_loadCells_list (P := x.P) w ⟨b, off, none⟩ (l.map u8c) (fun j v hj => by rw [Yo]; exact hsrc w hw j v hj)
   have hmm : (l.map u8c) = (l.map fun b => (b.toNat : Int)).map (Value.int .u8) := by simp [u8c]
   rw [List.length_map, hn, hmm] at hl
   have := run_bytesToString (P := x.P) w ⟨b, off, none⟩ n c _ hl
   rw [this]
   congr 1
   have hf : ∀ (l : List UInt8) (r : ByteArray), (l.map fun b => (b.toNat : Int)).foldl (fun r n => r.push (UInt8.ofNat n.toNat)) r = r ++ ⟨⟨l⟩⟩ := by
    intro l
    induction l with
    | nil => intro r; apply ByteArray.ext; simp
    | cons b l ih =>
     intro r
     simp only [List.map_cons, List.foldl_cons, ih]
     apply ByteArray.ext
     simp only [ByteArray.data_append, ByteArray.data_push, Int.toNat_natCast, UInt8.ofNat_toNat]
     apply Array.ext'
     simp
   rw [hf]
   congr 1
 have hsu : (underlying s).run x.P w = .ok (.slice e) w := by simp [underlying, hS.out]
 have heu : (underlying e).run x.P w = .ok (.int .u8) w := by simp [underlying, hE.out]
 have htu : (underlying t).run x.P w = .ok .string w := by simp [underlying, hT.out]
 simp only [execOp, ha.eval h, convert, Sem.run_bind, hsu, htu, heu, Result.andThen_ok, key, Sem.run_pure]
theorem OwnS.slice {v n xs sp sz} (h : OwnS v n xs sp sz) : ∃ a cap, v = .slice a n cap ∧ n ≤ cap := by
 rcases h.out with ⟨rfl, rfl, rfl, rfl⟩ | ⟨b, cap, rfl, h1, h2, h3⟩
 ·exact ⟨none, 0, rfl, Nat.le_refl _⟩
 ·exact ⟨_, cap, rfl, h3⟩
theorem Xg {d t e sz by' n m cx : Nat} {s y : Operand} {v z : Value} {xs sp ys : List Value} {a : Option Addr} [hS : ZT x.P t e] [hZ : ZJ x.P e sz] [hB : Zu x.P e by'] [hz : Zw x.P e z]
  (hs : ev E s = some v) (hy : ev E y = some (.slice a m cx)) (hown : OwnS v n xs sp sz) [hR : Rem (ZN v xs sp e) L L1] (hsrc : SrcV x ρ L1 a ys) (hlen : ys.length = m * sz)
  (h1 : ys.all (·.oneCell') = true) (hsz : 0 < sz) (hzs : z.cells.toList.length = sz) (hb : (n + m) * by' ≤ 140737488355328) (hm : n + m ≤ 9223372036854775807) (hd : Nat.blt d x.N = true)
  (k : ∀ v' sp', OwnS v' (n + m) (xs ++ ys) sp' sz → TL x ops rest Q ((d, v') :: E) ρ (ZN v' (xs ++ ys) sp' e :: L1)) :
  TL x ops (⟨some d, .call { callee := .builtin .append, args := #[s, y], argTypes := #[t, t] }, ty, pos, af, none⟩ :: rest) Q E ρ L := by
 by_cases h0 : m = 0
 ·subst h0
  have hy0 : ys = [] := List.eq_nil_of_length_eq_zero (by rw [hlen]; simp)
  subst hy0
  obtain ⟨a', cap, rfl, hc⟩ := hown.slice
  have := k (.slice a' n cap) sp (by simpa using hown)
  rw [List.append_nil] at this
  exact Zk (y_append0 hs hy hc) hd rfl (this.perm (by simpa using hR.out))
 ·have hne : ys ≠ [] := fun h => by
   rw [h] at hlen
   have : 0 < m * sz := Nat.mul_pos (by omega) hsz
   simp at hlen; omega
  obtain ⟨b, off, rfl, hsr⟩ := hsrc.resolve_left hne
  exact tl_append hs hy hown hsr hlen h1 (by omega) hzs hb hm hd k
theorem tl_app_str {d t u e n : Nat} {s y : Operand} {v : Value} {xs sp : List Value} {l : List UInt8} [hS : ZT x.P t e] [hU : TyStr x.P u] [hZ : ZJ x.P e 1] [hB : Zu x.P e 1] [hz : Zw x.P e (.int .u8 0)]
  (hs : ev E s = some v) (hy : ev E y = some (strV l)) (hown : OwnS v n xs sp 1) [hR : Rem (ZN v xs sp e) L L1] (hb : n + l.length ≤ 140737488355328) (hd : Nat.blt d x.N = true)
  (k : ∀ v' sp', OwnS v' (n + l.length) (xs ++ l.map u8c) sp' 1 → TL x ops rest Q ((d, v') :: E) ρ (ZN v' (xs ++ l.map u8c) sp' e :: L1)) :
  TL x ops (⟨some d, .call { callee := .builtin .append, args := #[s, y], argTypes := #[t, u] }, ty, pos, af, none⟩ :: rest) Q E ρ L := fun a w ha hw => by
 refine Yg rfl rfl ?_
 have hw' := hw.perm (L' := ZN v xs sp e :: L1) (by simpa using hR.out)
 have hwL : Sat x.u ρ L1 w := hw'.sub (by simp)
 obtain ⟨i, g1, g2⟩ := hZ.out
 obtain ⟨i2, g3, g4⟩ := hB.out
 obtain ⟨i3, g5, g6⟩ := hz.out
 rw [g1] at g3 g5
 cases g3; cases g5
 have hexec : ∀ (v' : Value) (w' : World), (Builtin.append_ #[t, u] ty #[v, strV l]).run x.P w = .ok v' w' →
   (execOp a.eval ⟨some d, .call { callee := .builtin .append, args := #[s, y], argTypes := #[t, u] }, ty, pos, af, none⟩).run x.P w = .ok (.value v') w' := fun v' w' hr => by
  simp only [execOp, resolve, Sem.run_bind, Sem.run_pure, Result.andThen_ok, invoke, builtin]
  have hargs : Array.map a.eval #[s, y] = #[v, strV l] := by simp [ha.eval hs, ha.eval hy]
  rw [hargs, hr]
  rfl
 have hgc : ∀ (w : World) (need old : Nat), need ≤ grownCap w need old e := fun w need old => by simp only [grownCap, Question.cut]; omega
 have hzc : (Value.int IntKind.u8 0).cells = #[Value.int .u8 0] := rfl
 have hzl : ∀ c, (Builtin.zeroCells (Value.int IntKind.u8 0).cells c).toList.length = c := fun c => by
  have := size_zeroCells (Value.int IntKind.u8 0).cells c
  rw [Array.length_toList, this, hzc]; simp
 by_cases hl0 : l = []
 ·subst hl0
  obtain ⟨a', cap, rfl, hc⟩ := hown.slice
  have hr : (Builtin.append_ #[t, u] ty #[.slice a' n cap, strV []]).run x.P w = .ok (.slice a' n cap) w := by
   rcases hown.out with ⟨e1, rfl, rfl, rfl⟩ | ⟨b, cap', e1, e2, e3, e4⟩
   ·cases e1
    have hf := run_firstCells_string (P := x.P) w 1 ⟨⟨[]⟩⟩
    simp [Builtin.append_, run_underlying hS.out, run_underlying hU.out, sizeOf, typeInfo, g1, g2, Builtin.lenOf, YJ] at hf ⊢
    simp [hf]
   ·cases e1
    have hbk : w.heap[b]? = some (.cells ⟨xs ++ sp⟩ e (0, 0)) := hw'.here (b, .cells ⟨xs ++ sp⟩ e (0, 0)) (by simp [ZN])
    have := run_append_room_string (P := x.P) w t u ty e i hS.out hU.out g1 g2 b n cap ⟨xs ++ sp⟩ hbk ⟨⟨[]⟩⟩ (by rw [YJ]; simpa using e4) (by rw [YJ]; simp; omega)
    rw [this]
    simp only [YJ, List.length_nil, Nat.add_zero, strCells_eq, List.map_nil, List.append_nil]
    congr 1
    rw [List.take_append_drop, setRow_eq hbk]
    have hq := (Array.getElem?_eq_some_iff.1 hbk).1
    have hset : w.heap.setIfInBounds b (.cells ⟨xs ++ sp⟩ e (0, 0)) = w.heap := by
     apply Array.ext_getElem?
     intro j
     by_cases hj : b = j
     ·subst hj; rw [hbk]; simp [hq]
     ·rw [Array.getElem?_setIfInBounds_ne hj]
    unfold putB
    rw [hset]
  rw [hexec _ _ hr]
  have := k (.slice a' n cap) sp (by simpa using hown) _ w (ha.put (Nat.le_of_ble_eq_true hd) _) (by simpa using hw')
  exact this
 ·have hpos : 0 < l.length := List.length_pos_iff.2 hl0
  rcases hown.out with ⟨rfl, rfl, rfl, rfl⟩ | ⟨b, cap, rfl, e1, e2, e3⟩
  ·have hrun := run_append_nil_string (P := x.P) w t u ty e i _ hS.out hU.out g1 g6 ⟨⟨l⟩⟩ (by rw [YJ]; exact hpos) (by rw [YJ]; omega) (by rw [YJ, g4]; omega)
   rw [hexec _ _ hrun]
   simp only [YJ] at *
   have hs2 := (hwL.drew).new (.cells ((⟨l⟩ : Array UInt8).map (fun b => Value.int .u8 b.toNat) ++ Builtin.zeroCells (Value.int .u8 0).cells (grownCap w l.length 0 e - l.length)) e (0, 0))
   have hg := hgc w l.length 0
   refine k (.slice (some ⟨w.heap.size, 0, none⟩) (0 + l.length) (grownCap w l.length 0 e)) (Builtin.zeroCells (Value.int .u8 0).cells (grownCap w l.length 0 e - l.length)).toList ?_ _ _ (by
    have := ha.put (Nat.le_of_ble_eq_true hd) (.slice (some ⟨w.heap.size, 0, none⟩) l.length (grownCap w l.length 0 e)); simpa using this) ?_
   ·refine ⟨.inr ⟨w.heap.size, grownCap w l.length 0 e, rfl, by simp, ?_, by omega⟩⟩
    rw [hzl]; simp; omega
   ·have : ZN (.slice (some ⟨w.heap.size, 0, none⟩) (0 + l.length) (grownCap w l.length 0 e)) ([] ++ l.map u8c) (Builtin.zeroCells (Value.int .u8 0).cells (grownCap w l.length 0 e - l.length)).toList e = [(w.heap.size, .cells ((⟨l⟩ : Array UInt8).map (fun b => Value.int .u8 b.toNat) ++ Builtin.zeroCells (Value.int .u8 0).cells (grownCap w l.length 0 e - l.length)) e (0, 0))] := by
     simp only [ZN, List.nil_append]
     congr 3
     apply Array.ext'; simp [u8c]
    rw [this]
    exact hs2
  ·have hbk : w.heap[b]? = some (.cells ⟨xs ++ sp⟩ e (0, 0)) := hw'.here (b, .cells ⟨xs ++ sp⟩ e (0, 0)) (by simp [ZN])
   by_cases hroom : n + l.length ≤ cap
   ·have hylen : (l.map u8c).length ≤ sp.length := by simp; omega
    have hrun := run_append_room_string (P := x.P) w t u ty e i hS.out hU.out g1 g2 b n cap ⟨xs ++ sp⟩ hbk ⟨⟨l⟩⟩ (by rw [YJ]; exact hroom) (by rw [YJ]; simp; omega)
    rw [hexec _ _ hrun]
    simp only [YJ, strCells_eq]
    have hset : w.setRow b (List.take n (xs ++ sp) ++ l.map u8c ++ List.drop (n + l.length) (xs ++ sp)).toArray = putB w b (.cells ⟨(xs ++ l.map u8c) ++ sp.drop (l.map u8c).length⟩ e (0, 0)) := by
     rw [setRow_eq hbk]
     have := stc_end xs sp (l.map u8c) hylen
     unfold stc at this
     rw [Nat.mul_one] at e1
     rw [← this, e1]
     simp
    have hs2 := hw'.put (.cells ⟨(xs ++ l.map u8c) ++ sp.drop (l.map u8c).length⟩ e (0, 0))
    refine k (.slice (some ⟨b, 0, none⟩) (n + l.length) cap) (sp.drop (l.map u8c).length) ⟨.inr ⟨b, cap, rfl, by simp [e1], by simp; omega, hroom⟩⟩ _ _ (ha.put (Nat.le_of_ble_eq_true hd) _) ?_
    rw [hset]
    exact hs2
   ·have hold : ∀ j c, xs[j]? = some c → w.cell? ((⟨b, 0, none⟩ : Addr).add j) = some c := fun j c hj => by
     rw [Yo]
     simp only [World.cell?, hbk, Option.isSome_none, Bool.false_eq_true, if_false, Nat.zero_add]
     have hlt := (List.getElem?_eq_some_iff.1 hj).1
     simp only [List.getElem?_toArray]
     rw [List.getElem?_append_left hlt]; exact hj
    have hfit : Builtin.nextslicecap (n + l.length) cap * 1 ≤ 281474976710656 := growslice_fits (by omega) (by omega)
    have hrun := run_append_grow_string (P := x.P) w t u ty e i _ hS.out hU.out g1 g6 ⟨b, 0, none⟩ n cap xs (by rw [g2]; exact e1) hold ⟨⟨l⟩⟩ (by rw [YJ]; omega) (by rw [YJ]; omega) (by rw [YJ, g4]; exact hfit)
    rw [hexec _ _ hrun]
    simp only [YJ, strCells_eq]
    have hs2 := (hwL.drew).new (.cells (xs.toArray ++ (l.map u8c).toArray ++ Builtin.zeroCells (Value.int .u8 0).cells (grownCap w (n + l.length) cap e - (n + l.length))) e (0, 0))
    have hg := hgc w (n + l.length) cap
    refine k (.slice (some ⟨w.heap.size, 0, none⟩) (n + l.length) (grownCap w (n + l.length) cap e)) (Builtin.zeroCells (Value.int .u8 0).cells (grownCap w (n + l.length) cap e - (n + l.length))).toList ?_ _ _ (ha.put (Nat.le_of_ble_eq_true hd) _) ?_
    ·refine ⟨.inr ⟨w.heap.size, _, rfl, by simp [e1], ?_, hg⟩⟩
     rw [hzl]; simp [e1]; omega
    ·have : ZN (.slice (some ⟨w.heap.size, 0, none⟩) (n + l.length) (grownCap w (n + l.length) cap e)) (xs ++ l.map u8c) (Builtin.zeroCells (Value.int .u8 0).cells (grownCap w (n + l.length) cap e - (n + l.length))).toList e = [(w.heap.size, .cells (xs.toArray ++ (l.map u8c).toArray ++ Builtin.zeroCells (Value.int .u8 0).cells (grownCap w (n + l.length) cap e - (n + l.length))) e (0, 0))] := by
      simp only [ZN]
      congr 3
      apply Array.ext'; simp
     rw [this]
     exact hs2
end
section
variable {x : Cx} {Q : Exit → Act → World → Prop} {E : Env} {ρ : Hp} {L L1 : SH} {ops : Array Oper} {rest tail : List Oper} {ty : TypeId} {pos : String} {af : Array Edge}
theorem y_slice_lh {o h g : Operand} {t e sz len cap : Nat} {a : Option Addr} {k k' : IntKind} {lo' hi' : Int} (ho : ev E o = some (.slice a len cap)) (hg : ev E g = some (.int k' lo')) (hh : ev E h = some (.int k hi')) [hS : ZT x.P t e] [hZ : ZJ x.P e sz]
  (h0 : 0 ≤ lo') (h1 : lo' ≤ hi') (h2 : hi' ≤ cap) (h3 : len ≤ cap) :
  Yl x (.slice t o (some g) (some h) none) ty E ρ L (.slice (if cap = lo'.toNat then a else a.map (·.add (lo'.toNat * sz))) (hi'.toNat - lo'.toNat) (cap - lo'.toNat)) := fun a' w _ _ _ _ ha hw => by
 obtain ⟨inf, g1, g2⟩ := hZ.out
 have hel : x.P.elem t = e := by simp [Program.elem, hS.out]
 have ht : x.P.underlying t = some (.slice (x.P.elem t)) := by rw [hel]; exact hS.out
 have hsz : (sizeOf e).run x.P w = .ok sz w := by simp [sizeOf, typeInfo, g1, g2]
 have := run_slice_lh (P := x.P) (w := w) (t := t) (e := e) (sz := sz) (a := a) (len := len) (cap := cap) hS.out hsz (lo := some (.int k' lo')) (hi' := some (.int k hi')) (l := lo'.toNat) (h := hi'.toNat) ⟨k', by rw [Int.toNat_of_nonneg h0]⟩ ⟨k, by rw [Int.toNat_of_nonneg (by omega)]⟩ (by omega) (by omega) h3
 simp only [execOp, ha.eval ho, ha.eval hh, ha.eval hg, Option.map_some, Option.map_none, Sem.run_bind, run_sliceAt_slice _ _ _ _ _ _ ht, this, Result.andThen_ok, Sem.run_pure]
theorem y_slice_l {o g : Operand} {t e sz len cap : Nat} {a : Option Addr} {k' : IntKind} {lo' : Int} (ho : ev E o = some (.slice a len cap)) (hg : ev E g = some (.int k' lo')) [hS : ZT x.P t e] [hZ : ZJ x.P e sz]
  (h0 : 0 ≤ lo') (h1 : lo' ≤ len) (h3 : len ≤ cap) :
  Yl x (.slice t o (some g) none none) ty E ρ L (.slice (if cap = lo'.toNat then a else a.map (·.add (lo'.toNat * sz))) (len - lo'.toNat) (cap - lo'.toNat)) := fun a' w _ _ _ _ ha hw => by
 obtain ⟨inf, g1, g2⟩ := hZ.out
 have hel : x.P.elem t = e := by simp [Program.elem, hS.out]
 have ht : x.P.underlying t = some (.slice (x.P.elem t)) := by rw [hel]; exact hS.out
 have hsz : (sizeOf e).run x.P w = .ok sz w := by simp [sizeOf, typeInfo, g1, g2]
 have := run_slice_lh (P := x.P) (w := w) (t := t) (e := e) (sz := sz) (a := a) (len := len) (cap := cap) hS.out hsz (lo := some (.int k' lo')) (hi' := none) (l := lo'.toNat) (h := len) ⟨k', by rw [Int.toNat_of_nonneg h0]⟩ rfl (by omega) h3 h3
 simp only [execOp, ha.eval ho, ha.eval hg, Option.map_some, Option.map_none, Sem.run_bind, run_sliceAt_slice _ _ _ _ _ _ ht, this, Result.andThen_ok, Sem.run_pure]
theorem Upd.same {b : Nat} {L : SH} {o : Obj} {f : Obj → SH} (h : Upd b L o f) : f o = L := by
 obtain ⟨pre, post, h1, h2⟩ := h.out
 rw [h2, h1]
theorem tl_copy {d dT sT e b o dl dc sl sc : Nat} {T : TypeId} {dst src : Operand} {a : Option Addr} {l ys : List Value} {f : Obj → SH} [hS : ZT x.P dT e] [hZ : ZJ x.P e 1]
  (hdst : ev E dst = some (.slice (some ⟨b, o, none⟩) dl dc)) (hs : ev E src = some (.slice a sl sc)) [hU : Upd b L (.cells ⟨l⟩ T (0, 0)) f] (hsrc : SrcV x ρ L a ys) (hlen : ys.length = sl)
  (h1 : ys.all (·.oneCell') = true) (hfit : o + min sl dl ≤ l.length) (hd : Nat.blt d x.N = true)
  (k : TL x ops rest Q ((d, .int .i64 (min sl dl : Nat)) :: E) ρ (f (.cells ⟨stc l o (ys.take dl)⟩ T (0, 0)))) :
  TL x ops (⟨some d, .call { callee := .builtin .copy, args := #[dst, src], argTypes := #[dT, sT] }, ty, pos, af, none⟩ :: rest) Q E ρ L := fun a' w ha hw => by
 refine Yg rfl rfl ?_
 obtain ⟨inf, g1, g2⟩ := hZ.out
 have hs1 : (x.P.info? e).map (·.size) = some 1 := by rw [g1]; simp [g2]
 obtain ⟨hw2, hb⟩ := hw.upd hU (.cells ⟨stc l o (ys.take dl)⟩ T (0, 0))
 have hcl : (ys.take dl).length = min sl dl := by rw [List.length_take, hlen, Nat.min_comm]
 have hexec : ∀ (w' : World), (Builtin.copy_ #[dT, sT] ty #[.slice (some ⟨b, o, none⟩) dl dc, .slice a sl sc]).run x.P w = .ok (goInt (min sl dl : Nat)) w' →
   (execOp a'.eval ⟨some d, .call { callee := .builtin .copy, args := #[dst, src], argTypes := #[dT, sT] }, ty, pos, af, none⟩).run x.P w = .ok (.value (.int .i64 (min sl dl : Nat))) w' := fun w' hr => by
  simp only [execOp, resolve, Sem.run_bind, Sem.run_pure, Result.andThen_ok, invoke, builtin]
  have hargs : Array.map a'.eval #[dst, src] = #[.slice (some ⟨b, o, none⟩) dl dc, .slice a sl sc] := by simp [ha.eval hdst, ha.eval hs]
  rw [hargs, hr]
  rfl
 by_cases h0 : ys.take dl = []
 ·have hm0 : min sl dl = 0 := by rw [← hcl, h0]; rfl
  have hr := run_copy_none (P := x.P) w dT sT ty e (some ⟨b, o, none⟩) a dl dc sl sc hS.out hs1 hm0
  rw [hexec w (by rw [hm0]; exact hr)]
  have hst : stc l o (ys.take dl) = l := by rw [h0]; simp [stc]
  rw [hst, hU.same] at k
  exact k _ _ (ha.put (Nat.le_of_ble_eq_true hd) _) hw
 ·obtain ⟨b2, off, rfl, hsr⟩ := hsrc.resolve_left (fun h => h0 (by rw [h]; simp))
  have hr := run_copy_row (P := x.P) w dT sT ty e b o dl dc ⟨b2, off, none⟩ sl sc ⟨l⟩ T (ys.take dl) hS.out hs1 hb hcl (fun j v hj => by
   have hlt : j < (ys.take dl).length := (List.getElem?_eq_some_iff.1 hj).1
   rw [Yo]
   refine hsr w hw j v ?_
   rw [List.getElem?_take_of_lt (by simp at hlt; omega)] at hj
   exact hj) (by rw [hcl]; exact hfit) (fun v hv => List.all_eq_true.1 h1 v (List.mem_of_mem_take hv))
  rw [hcl] at hr
  rw [hexec _ hr]
  have hset : w.setRow b ((⟨l⟩ : Array Value).toList.take o ++ ys.take dl ++ (⟨l⟩ : Array Value).toList.drop (o + min sl dl)).toArray = putB w b (.cells ⟨stc l o (ys.take dl)⟩ T (0, 0)) := by
   rw [setRow_eq hb]
   unfold stc
   rw [hcl]
  rw [hset]
  exact k _ _ (ha.put (Nat.le_of_ble_eq_true hd) _) hw2
theorem Yx {m i p : Operand} {t kt e b : Nat} {kk : IntKind} {es : List MapEntry} {ck : Nat} {k : Int} {v : Value} {f : Obj → SH} (hm : ev E m = some (.map (some b))) (hi : ev E i = some (.int kk k)) (hp : ev E p = some v)
  [hM : TyMap x.P t kt e] [hK : YV x.P kt kk] [hU : Upd b L (.map ⟨es⟩ ck) f] (hes : YU kk es)
  (kk' : ∀ es' ck', YU kk es' → (∀ j, Xe es' j = if j = k then some v else Xe es j) → TL x ops rest Q E ρ (f (.map ⟨es'⟩ ck'))) :
  TL x ops (⟨none, .insert t m i p, ty, pos, af, none⟩ :: rest) Q E ρ L := fun a w ha hw => by
 refine Yg rfl rfl ?_
 obtain ⟨es', ck', hrun, h1, h2⟩ := run_mapUpdate_int hM hK (hw.upd hU (.map ⟨es⟩ ck)).2 hes k v
 have hs := (hw.upd hU (.map ⟨es'⟩ ck')).1
 have : (execOp a.eval ⟨none, .insert t m i p, ty, pos, af, none⟩).run x.P w = .ok .skip (putB w b (.map ⟨es'⟩ ck')) := by
  simp only [execOp, ha.eval hm, ha.eval hi, ha.eval hp, Sem.run_bind, hrun, Result.andThen_ok, Sem.run_pure]
 rw [this]
 exact kk' es' ck' h1 h2 _ _ (ha.put_none undef) hs
end
class EqC (P : Program) (m : Nat) (t : TypeId) (a b : Value) (r : outParam Bool) : Prop where
 out : ∀ d w, m ≤ d → (Op.equalIn d t a b).run P w = .ok r w
instance EqC.int {P : Program} {m t : Nat} {k : IntKind} {a b : Int} [h : YV P t k] : EqC P (m + 1) t (.int k a) (.int k b) (a == b) := ⟨fun d w hd => by
 obtain ⟨d, rfl⟩ : ∃ d', d = d' + 1 := ⟨d - 1, by omega⟩
 exact run_equalIn_int w d t k k a b h.out⟩
instance EqC.bool {P : Program} {m t : Nat} {a b : Bool} [h : TyBool P t] : EqC P (m + 1) t (.bool a) (.bool b) (a == b) := ⟨fun d w hd => by
 obtain ⟨d, rfl⟩ : ∃ d', d = d' + 1 := ⟨d - 1, by omega⟩
 exact run_equalIn_bool' w d t a b h.out⟩
instance EqC.str {P : Program} {m t : Nat} {a b : List UInt8} [h : TyStr P t] : EqC P (m + 1) t (strV a) (strV b) (decide (a = b)) := ⟨fun d w hd => by
 obtain ⟨d, rfl⟩ : ∃ d', d = d' + 1 := ⟨d - 1, by omega⟩
 rw [← str_beq]
 exact run_equalIn_string w d t _ _ h.out⟩
class GetL (l : List Value) (off : Nat) (v : outParam Value) : Prop where
 out : l[off]? = some v
instance GetL.zero {a : Value} {r : List Value} : GetL (a :: r) 0 a := ⟨rfl⟩
instance GetL.succ {a v : Value} {r : List Value} {n : Nat} [h : GetL r n v] : GetL (a :: r) (n + 1) v := ⟨by simpa using h.out⟩
class SubL (l : List Value) (off n : Nat) (m : outParam (List Value)) : Prop where
 out : (l.drop off).take n = m
 len : m.length = n
instance SubL.nil {l : List Value} : SubL l 0 0 [] := ⟨by simp, rfl⟩
instance SubL.take {a : Value} {r m : List Value} {n : Nat} [h : SubL r 0 n m] : SubL (a :: r) 0 (n + 1) (a :: m) := ⟨by have := h.out; simp at this ⊢; exact this, by simp [h.len]⟩
instance SubL.drop {a : Value} {r m : List Value} {o n : Nat} [h : SubL r o n m] : SubL (a :: r) (o + 1) n m := ⟨by simpa using h.out, h.len⟩
class EqF (P : Program) (m : Nat) (fs : List (Nat × TypeId)) (xs ys : List Value) (r : outParam Bool) : Prop where
 out : ∀ d w (gs : List Field), m ≤ d → gs.map (fun f => (f.offset, f.type)) = fs → (∀ f ∈ gs, f.name ≠ "_") → (Op.eqFields d ⟨xs⟩ ⟨ys⟩ gs).run P w = .ok r w
instance EqF.nil {P : Program} {m : Nat} {xs ys : List Value} : EqF P m [] xs ys true := ⟨fun d w gs _ hg _ => by
 have : gs = [] := by simpa using hg
 subst this
 simp [Op.eqFields]⟩
theorem EqF.step {P : Program} {m off : Nat} {ft : TypeId} {fs : List (Nat × TypeId)} {xs ys : List Value} {a b : Value} {r1 r2 : Bool}
  (ha : ∀ w, (part ft ⟨xs⟩ off).run P w = .ok a w) (hb : ∀ w, (part ft ⟨ys⟩ off).run P w = .ok b w) (h1 : EqC P m ft a b r1) (h2 : EqF P m fs xs ys r2) : EqF P m ((off, ft) :: fs) xs ys (r1 && r2) := ⟨fun d w gs hd hg hn => by
 cases gs with
 | nil => simp at hg
 | cons g gs =>
  simp only [List.map_cons, List.cons.injEq, Prod.mk.injEq] at hg
  obtain ⟨⟨rfl, rfl⟩, hg⟩ := hg
  have hn0 := hn g (by simp)
  simp only [Op.eqFields, hn0, ne_eq, not_false_eq_true, if_true, Sem.run_bind, ha, hb, Result.andThen_ok, h1.out d w hd]
  cases r1
  ·simp
  ·simpa using h2.out d w gs hd hg (fun f hf => hn f (by simp [hf]))⟩
instance EqF.cons_s {P : Program} {m off : Nat} {ft : TypeId} {fs : List (Nat × TypeId)} {xs ys : List Value} {a b : Value} {r1 r2 : Bool} [hT : TyS P ft] [ha : GetL xs off a] [hb : GetL ys off b] [h1 : EqC P m ft a b r1] [h2 : EqF P m fs xs ys r2] :
  EqF P m ((off, ft) :: fs) xs ys (r1 && r2) := by
 obtain ⟨d, i, g1, g2, g3, g4⟩ := hT.out
 have hag : ∀ w, (isAgg ft).run P w = .ok false w := fun w => by
  simp only [isAgg, underlying, Sem.run_bind, run_program, Result.andThen_ok, g1, Sem.run_pure]
  cases d <;> simp_all
 have ea := ha.out
 have eb := hb.out
 exact EqF.step (fun w => by simp [part, hag, ea]) (fun w => by simp [part, hag, eb]) h1 h2
instance EqF.cons_a {P : Program} {m off n : Nat} {ft : TypeId} {fs : List (Nat × TypeId)} {xs ys as bs : List Value} {r1 r2 : Bool} [hT : TyA P ft n] [ha : SubL xs off n as] [hb : SubL ys off n bs] [h1 : EqC P m ft (.agg ⟨as⟩) (.agg ⟨bs⟩) r1] [h2 : EqF P m fs xs ys r2] :
  EqF P m ((off, ft) :: fs) xs ys (r1 && r2) := by
 obtain ⟨d, i, g1, g2, g3, g4⟩ := hT.out
 have hag : ∀ w, (isAgg ft).run P w = .ok true w := fun w => by
  simp only [isAgg, underlying, Sem.run_bind, run_program, Result.andThen_ok, g1, Sem.run_pure]
  cases d <;> simp_all
 have ea := ha.out
 have eb := hb.out
 refine EqF.step (fun w => ?_) (fun w => ?_) h1 h2
 ·simp [part, hag, sizeOf, typeInfo, g3, g4, ea]
 ·simp [part, hag, sizeOf, typeInfo, g3, g4, eb]
class Xp (P : Program) (t : TypeId) (fs : outParam (List (Nat × TypeId))) : Prop where
 out : P.underlying t = some (.struct (P.fieldsOf t)) ∧ P.stoodInHeld t = false ∧ (P.fieldsOf t).toList.map (fun f => (f.offset, f.type)) = fs ∧ ∀ f ∈ (P.fieldsOf t).toList, f.name ≠ "_"
def fldsB (P : Program) (t : TypeId) : Option (List (Nat × TypeId)) :=
 match P.underlying t with
 | some (.struct fs) => if !P.stoodInHeld t && fs.toList.all (fun f => f.name != "_") then some (fs.toList.map (fun f => (f.offset, f.type))) else none
 | _ => none
theorem YH {P : Program} {t : TypeId} {fs : List (Nat × TypeId)} (h : fldsB P t = some fs) : Xp P t fs := by
 unfold fldsB at h
 split at h
 ·rename_i gs hg
  split at h
  ·rename_i hc
   simp only [Bool.and_eq_true, Bool.not_eq_true', List.all_eq_true, bne_iff_ne, ne_eq] at hc
   simp only [Option.some.injEq] at h
   have hf : P.fieldsOf t = gs := by simp [Program.fieldsOf, hg]
   exact ⟨by rw [hf]; exact hg, hc.1, by rw [hf]; exact h, by rw [hf]; exact hc.2⟩
  ·cases h
 ·cases h
instance EqC.struct {P : Program} {m t : Nat} {fs : List (Nat × TypeId)} {xs ys : List Value} {r : Bool} [hF : Xp P t fs] [h : EqF P m fs xs ys r] : EqC P (m + 1) t (.agg ⟨xs⟩) (.agg ⟨ys⟩) r := ⟨fun d w hd => by
 obtain ⟨d, rfl⟩ : ∃ d', d = d' + 1 := ⟨d - 1, by omega⟩
 obtain ⟨h1, h2, h3, h4⟩ := hF.out
 rw [run_equalIn_struct w d t _ _ h1 h2]
 exact h.out d w _ (by omega) h3 h4⟩
section
variable {x : Cx} {E : Env} {ρ : Hp} {L : SH} {ty : TypeId}
theorem y_eqc {o : BinOp} {p q : Operand} {t t' : TypeId} {u v : List Value} {b c : Bool} (h1 : ev E p = some (.agg ⟨u⟩)) (h2 : ev E q = some (.agg ⟨v⟩)) [hG : ZQ x.P t] [hC : EqC x.P 8 t (.agg ⟨u⟩) (.agg ⟨v⟩) c]
  (hb : eqB o c = some b) : Yl x (.binOp o t p q t') ty E ρ L (.bool b) := fun a w _ _ _ _ ha _ => by
 have hd : Op.maxDepth = 10000 := rfl
 have hr : (Op.equal t (.agg ⟨u⟩) (.agg ⟨v⟩)).run x.P w = .ok c w := by rw [Op.equal, hd]; exact hC.out 10000 w (by decide)
 have hg := run_eqGuard_agg (P := x.P) w o t p q ⟨u⟩ ⟨v⟩ hG.out
 have hbin : (binOp o t (.agg ⟨u⟩) (.agg ⟨v⟩)).run x.P w = .ok (.bool b) w := by
  cases o <;> simp only [eqB, Option.some.injEq, reduceCtorEq] at hb <;> subst hb <;> simp only [binOp, Sem.run_bind, hr, Result.andThen_ok, Sem.run_pure]
 simp only [execOp, ha.eval h1, ha.eval h2, Sem.run_bind, hg, Result.andThen_ok, hbin, Sem.run_pure]
end
end Go.Proofs.E
namespace Go.Proofs.E
open Go
set_option linter.unusedVariables false
set_option linter.unusedSimpArgs false
set_option linter.unusedSectionVars false
structure SIn (ρ : Hp) {α : Type} (g : α → Value) (a : Option Addr) (n : Nat) (l : List α) : Prop where
 len : l.length = n
 out : n = 0 ∨ ∃ b off C T fr, a = some ⟨b, off, none⟩ ∧ ρ b = some (.cells ⟨C⟩ T fr) ∧ (C.drop off).take n = l.map g
structure AIn (ρ : Hp) {α : Type} (sz : Nat) (g : α → List Value) (a : Option Addr) (n : Nat) (l : List α) : Prop where
 len : l.length = n
 out : n = 0 ∨ ∃ b off C T fr, a = some ⟨b, off, none⟩ ∧ ρ b = some (.cells ⟨C⟩ T fr) ∧ off + n * sz ≤ C.length ∧ (C.drop off).take (n * sz) = (l.map g).flatten
 sz : ∀ x ∈ l, (g x).length = sz
section
variable {α : Type} {ρ ρ' : Hp} {a : Option Addr} {n : Nat} {l : List α}
theorem SIn.mono {g : α → Value} (h : SIn ρ g a n l) (hle : ρ.le ρ') : SIn ρ' g a n l := ⟨h.len, h.out.imp id fun ⟨b, off, C, T, fr, h1, h2, h3⟩ => ⟨b, off, C, T, fr, h1, hle _ _ h2, h3⟩⟩
theorem AIn.mono {sz} {g : α → List Value} (h : AIn ρ sz g a n l) (hle : ρ.le ρ') : AIn ρ' sz g a n l := ⟨h.len, h.out.imp id fun ⟨b, off, C, T, fr, h1, h2, h3⟩ => ⟨b, off, C, T, fr, h1, hle _ _ h2, h3⟩, h.sz⟩
theorem SIn.nil {g : α → Value} : SIn ρ g a 0 [] := ⟨rfl, .inl rfl⟩
theorem AIn.nil {sz} {g : α → List Value} : AIn ρ sz g a 0 [] := ⟨rfl, .inl rfl, by simp⟩
theorem SIn.srcV {g : α → Value} {x : Cx} {L : SH} (h : SIn ρ g a n l) : SrcV x ρ L a (l.map g) := by
 rcases h.out with h0 | ⟨b, off, C, T, fr, rfl, h2, h3⟩
 ·left
  have := h.len
  rw [h0] at this
  simp [List.eq_nil_of_length_eq_zero this]
 ·exact .inr ⟨b, off, rfl, Src.imm (n := n) h2 h3⟩
theorem AIn.srcV {sz} {g : α → List Value} {x : Cx} {L : SH} (h : AIn ρ sz g a n l) : SrcV x ρ L a ((l.map g).flatten) := by
 rcases h.out with h0 | ⟨b, off, C, T, fr, rfl, h2, h4, h3⟩
 ·left
  have := h.len
  rw [h0] at this
  simp [List.eq_nil_of_length_eq_zero this]
 ·exact .inr ⟨b, off, rfl, Src.imm (n := n * sz) h2 h3⟩
theorem SIn.get {g : α → Value} (h : SIn ρ g a n l) {i : Nat} (hi : i < l.length) : ∃ b off C T fr, a = some ⟨b, off, none⟩ ∧ ρ b = some (.cells ⟨C⟩ T fr) ∧ C[off + i * 1]? = some (g l[i]) := by
 have hn := h.len
 obtain ⟨b, off, C, T, fr, h1, h2, h3⟩ := h.out.resolve_left (by omega)
 refine ⟨b, off, C, T, fr, h1, h2, ?_⟩
 have := congrArg (fun l : List Value => l[i]?) h3
 simp only [List.getElem?_map] at this
 rw [List.getElem?_take_of_lt (by omega), List.getElem?_drop, List.getElem?_eq_getElem hi] at this
 rw [Nat.mul_one]; simpa using this
theorem flat_at (g : α → List Value) (sz : Nat) : ∀ (l : List α) (i : Nat) (h : i < l.length), (∀ x ∈ l, (g x).length = sz) → (((l.map g).flatten).drop (i * sz)).take sz = g l[i]
 | [], i, h, _ => by simp at h
 | p :: r, 0, h, hl => by
  have h1 := hl p (by simp)
  simp only [List.map_cons, List.flatten_cons, Nat.zero_mul, List.drop_zero, List.getElem_cons_zero]
  rw [List.take_append_of_le_length (by omega), List.take_of_length_le (by omega)]
 | p :: r, i + 1, h, hl => by
  have h1 := hl p (by simp)
  have ih := flat_at g sz r i (by simpa using h) (fun q hq => hl q (by simp [hq]))
  simp only [List.map_cons, List.flatten_cons, List.getElem_cons_succ]
  have e : (i + 1) * sz = (g p).length + i * sz := by rw [h1, Nat.add_mul]; omega
  rw [e, ← List.drop_drop, List.drop_left]
  exact ih
theorem flat_len (g : α → List Value) (sz : Nat) : ∀ (l : List α), (∀ x ∈ l, (g x).length = sz) → ((l.map g).flatten).length = l.length * sz
 | [], _ => by simp
 | p :: r, hl => by
  have h1 := hl p (by simp)
  have ih := flat_len g sz r (fun q hq => hl q (by simp [hq]))
  simp only [List.map_cons, List.flatten_cons, List.length_append, List.length_cons, ih, h1, Nat.add_mul]; omega
theorem AIn.get {sz} {g : α → List Value} (h : AIn ρ sz g a n l) {i : Nat} (hi : i < l.length) : ∃ b off C T fr, a = some ⟨b, off, none⟩ ∧ ρ b = some (.cells ⟨C⟩ T fr) ∧ off + i * sz + sz ≤ C.length ∧ (C.drop (off + i * sz)).take sz = g l[i] := by
 have hn := h.len
 obtain ⟨b, off, C, T, fr, h1, h2, h4, h3⟩ := h.out.resolve_left (by omega)
 have hle : (i + 1) * sz ≤ n * sz := Nat.mul_le_mul_right _ (by omega)
 rw [Nat.add_mul] at hle
 refine ⟨b, off, C, T, fr, h1, h2, by omega, ?_⟩
 have := flat_at g sz l i hi h.sz
 rw [← h3] at this
 rw [← this, List.drop_take, List.take_take, List.drop_drop]
 congr 1
 omega
theorem SIn.sub {g : α → Value} (h : SIn ρ g a n l) {lo' hi' : Nat} (h1 : lo' ≤ hi') (h2 : hi' ≤ n) {cap : Nat} (hc : n ≤ cap) : SIn ρ g (if cap = lo' then a else a.map (·.add (lo' * 1))) (hi' - lo') ((l.drop lo').take (hi' - lo')) := by
 have hn := h.len
 refine ⟨by simp; omega, ?_⟩
 by_cases h0 : hi' - lo' = 0
 ·exact .inl h0
 ·right
  obtain ⟨b, off, C, T, fr, rfl, e2, e3⟩ := h.out.resolve_left (by omega)
  rw [if_neg (by omega)]
  refine ⟨b, off + lo', C, T, fr, by simp [Yo], e2, ?_⟩
  rw [List.map_take, List.map_drop, ← e3, List.drop_take, List.take_take, List.drop_drop, Nat.min_eq_left (by omega)]
theorem SIn.take {g : α → Value} (h : SIn ρ g a n l) {hi' : Nat} (h2 : hi' ≤ n) : SIn ρ g a hi' (l.take hi') := by
 have hn := h.len
 refine ⟨by simp; omega, ?_⟩
 by_cases h0 : hi' = 0
 ·exact .inl h0
 ·right
  obtain ⟨b, off, C, T, fr, rfl, e2, e3⟩ := h.out.resolve_left (by omega)
  refine ⟨b, off, C, T, fr, rfl, e2, ?_⟩
  rw [List.map_take, ← e3, List.take_take, Nat.min_eq_left h2]
theorem AIn.take {sz} {g : α → List Value} (h : AIn ρ sz g a n l) {hi' : Nat} (h2 : hi' ≤ n) : AIn ρ sz g a hi' (l.take hi') := by
 have hn := h.len
 refine ⟨by simp; omega, ?_, fun x hx => h.sz x (List.mem_of_mem_take hx)⟩
 by_cases h0 : hi' = 0
 ·exact .inl h0
 ·right
  obtain ⟨b, off, C, T, fr, rfl, e2, e4, e3⟩ := h.out.resolve_left (by omega)
  have hle : hi' * sz ≤ n * sz := Nat.mul_le_mul_right _ h2
  refine ⟨b, off, C, T, fr, rfl, e2, by omega, ?_⟩
  have hl1 : ((l.take hi').map g).flatten = ((l.map g).flatten).take (hi' * sz) := by
   have hsplit : (l.map g).flatten = ((l.take hi').map g).flatten ++ ((l.drop hi').map g).flatten := by
    rw [← List.flatten_append, ← List.map_append, List.take_append_drop]
   rw [hsplit, List.take_left' (by rw [flat_len g sz _ (fun x hx => h.sz x (List.mem_of_mem_take hx)), List.length_take, Nat.min_eq_left (by omega)])]
  rw [hl1, ← e3, List.take_take, Nat.min_eq_left hle]
theorem OwnS.sIn {g : α → Value} {v : Value} {sp : List Value} {T : TypeId} (h : OwnS v n (l.map g) sp 1) (hf : ∀ p ∈ ZN v (l.map g) sp T, ρ p.1 = some p.2) : ∃ a cap, v = .slice a n cap ∧ n ≤ cap ∧ SIn ρ g a n l := by
 rcases h.out with ⟨rfl, rfl, h2, h3⟩ | ⟨b, c, rfl, h2, h3, h4⟩
 ·have : l = [] := by simpa using h2
  subst this
  exact ⟨none, 0, rfl, Nat.le_refl _, SIn.nil⟩
 ·refine ⟨some ⟨b, 0, none⟩, c, rfl, h4, by simpa using h2, .inr ⟨b, 0, _, T, (0, 0), rfl, hf (b, _) (List.mem_singleton.2 rfl), ?_⟩⟩
  rw [List.drop_zero, List.take_left' (by simpa using h2)]
theorem OwnS.aIn {sz : Nat} {g : α → List Value} {v : Value} {sp : List Value} {T : TypeId} (h : OwnS v n ((l.map g).flatten) sp sz) (hl : l.length = n) (hg : ∀ x ∈ l, (g x).length = sz) (hf : ∀ p ∈ ZN v ((l.map g).flatten) sp T, ρ p.1 = some p.2) : ∃ a cap, v = .slice a n cap ∧ n ≤ cap ∧ AIn ρ sz g a n l := by
 rcases h.out with ⟨rfl, rfl, h2, h3⟩ | ⟨b, c, rfl, h2, h3, h4⟩
 ·have : l = [] := List.eq_nil_of_length_eq_zero hl
  subst this
  exact ⟨none, 0, rfl, Nat.le_refl _, AIn.nil⟩
 ·refine ⟨some ⟨b, 0, none⟩, c, rfl, h4, hl, .inr ⟨b, 0, _, T, (0, 0), rfl, hf (b, _) (List.mem_singleton.2 rfl), by simp [List.length_append]; simp at h2; omega, ?_⟩, hg⟩
  rw [List.drop_zero, List.take_left' h2]
end
section
variable {x : Cx} {Q : Exit → Act → World → Prop} {E : Env} {ρ : Hp} {L L1 : SH} {ops : Array Oper} {rest tail : List Oper} {ty : TypeId} {pos : String} {af : Array Edge}
theorem y_conv_i {p : Operand} {s t : TypeId} {k k' : IntKind} {n : Int} (h : ev E p = some (.int k' n)) [hk : YV x.P t k] [hs : YV x.P s k'] (hb : lo k ≤ n ∧ n ≤ hi k) : Yl x (.convert s t p) ty E ρ L (.int k n) := by
 have := y_conv (x := x) (E := E) (ρ := ρ) (L := L) (ty := ty) (s := s) (t := t) h
 rwa [wrap_id hb] at this
theorem y_lookup0 {m i : Operand} {t kt e b : Nat} {kk : IntKind} {z : Value} {es : List MapEntry} {ck : Nat} {k : Int} (hm : ev E m = some (.map (some b))) (hi : ev E i = some (.int kk k)) [hM : TyMap x.P t kt e] [hK : YV x.P kt kk] [hz : Zw x.P e z]
  [hF : Find b L (.map ⟨es⟩ ck)] (hes : YU kk es) (hg : Xe es k = none) : Yl x (.lookup t m i false) ty E ρ L z := by
 have := y_lookup (x := x) (ty := ty) (ρ := ρ) hm hi (hM := hM) (hK := hK) (hz := hz) (hF := hF) hes
 rw [hg] at this; exact this
theorem y_conv_in {p : Operand} {s t e : TypeId} {a : Option Addr} {n c : Nat} {l : List UInt8} [hT : TyStr x.P t] [hS : ZT x.P s e] [hE : YV x.P e .u8] (h : ev E p = some (.slice a n c)) (hs : SIn ρ u8c a n l) : Yl x (.convert s t p) ty E ρ L (strV l) := y_conv_bs h hs.srcV hs.len
theorem y_eqc_l {o : BinOp} {p q : Operand} {t t' : TypeId} {u v : List Value} {b c d : Bool} (h1 : ev E p = some (.agg ⟨u⟩)) (h2 : ev E q = some (.agg ⟨v⟩)) [hG : ZQ x.P t] [hC : EqC x.P 8 t (.agg ⟨u⟩) (.agg ⟨v⟩) c] (hc : c = d)
  (hb : eqB o d = some b) : Yl x (.binOp o t p q t') ty E ρ L (.bool b) := by subst hc; exact y_eqc h1 h2 hb
theorem SrcV.find {b off n : Nat} {l ys : List Value} {T : TypeId} {fr : Nat × Nat} [hF : Find b L (.cells ⟨l⟩ T fr)] (h : (l.drop off).take n = ys) : SrcV x ρ L (some ⟨b, off, none⟩) ys := .inr ⟨b, off, rfl, Src.find (n := n) h⟩
theorem SrcV.lit {b : Nat} {ys : List Value} {T : TypeId} {fr : Nat × Nat} [hF : Find b L (.cells ⟨ys⟩ T fr)] : SrcV x ρ L (some ⟨b, 0, none⟩) ys := .inr ⟨b, 0, rfl, Src.find (n := ys.length) (by simp)⟩
theorem SrcV.own {v : Value} {a : Option Addr} {n cap : Nat} {xs sp : List Value} {sz : Nat} {T : TypeId} {L' : SH} (h : OwnS (.slice a n cap) n xs sp sz) [hR : Rem (ZN (.slice a n cap) xs sp T) L L'] : SrcV x ρ L a xs := by
 rcases h.out with ⟨e1, rfl, h2, h3⟩ | ⟨b, c, e1, h2, h3, h4⟩
 ·exact .inl h2
 ·cases e1
  refine .inr ⟨b, 0, rfl, fun w hw j c hj => ?_⟩
  have hw' := hw.perm (L' := ZN (.slice (some ⟨b, 0, none⟩) n cap) xs sp T :: L') (by simpa using hR.out)
  have hb : w.heap[b]? = some (.cells ⟨xs ++ sp⟩ T (0, 0)) := hw'.here (b, .cells ⟨xs ++ sp⟩ T (0, 0)) (by simp [ZN])
  simp only [World.cell?, hb, Option.isSome_none, Bool.false_eq_true, if_false, Nat.zero_add]
  simp only [List.getElem?_toArray]
  rw [List.getElem?_append_left (List.getElem?_eq_some_iff.1 hj).1]; exact hj
theorem y_load_sub {o : Operand} {t b off n : Nat} {l m : List Value} {T : TypeId} {fr : Nat × Nat} (h : ev E o = some (.pointer (some ⟨b, off, none⟩))) [hA : TyA x.P t n] [hF : Find b L (.cells ⟨l⟩ T fr)] [hS : SubL l off n m] : Yl x (.load t o) ty E ρ L (.agg ⟨m⟩) := by
 by_cases h0 : n = 0
 ·subst h0
  have hm : m = [] := List.eq_nil_of_length_eq_zero hS.len
  by_cases hl : off ≤ l.length
  ·exact y_load_part h (by omega) hS.out
  ·intro a w _ _ _ _ ha hw
   obtain ⟨d, i, h1, h2, h3, h4⟩ := hA.out
   have hag : (isAgg t).run x.P w = .ok true w := by
    simp only [isAgg, underlying, Sem.run_bind, run_program, Result.andThen_ok, h1, Sem.run_pure]
    cases d <;> simp_all
   have hl0 := run_loadCells_list (P := x.P) w ⟨b, off, none⟩ [] (by simp)
   simp only [List.length_nil] at hl0
   simp [execOp, ha.eval h, Instr.loadAt, Instr.sureAddr, loadVar, hag, sizeOf, typeInfo, h3, h4, hl0, hm]
 ·have := hS.out
  have hl := hS.len
  rw [← this] at hl
  simp at hl
  exact y_load_part h (by omega) this
theorem y_field_sub {o : Operand} {s f d ft n : Nat} {l m : List Value} (h : ev E o = some (.agg ⟨l⟩)) [hF : Ys x.P s f d ft] [hT : TyA x.P ft n] [hS : SubL l d n m] : Yl x (.field s o f) ty E ρ L (.agg ⟨m⟩) := y_field_a h hS.out
class SetS (l : List Value) (off : Nat) (vs : List Value) (l' : outParam (List Value)) : Prop where
 out : stc l off vs = l'
 fit : off + vs.length ≤ l.length
instance SetS.nil {l : List Value} : SetS l 0 [] l := ⟨by simp [stc], by simp⟩
instance SetS.cons {a v : Value} {r vs r' : List Value} [h : SetS r 0 vs r'] : SetS (a :: r) 0 (v :: vs) (v :: r') := ⟨by
 have := h.out
 simp [stc] at this ⊢
 exact this, by have := h.fit; simp at this ⊢; omega⟩
instance SetS.drop {a : Value} {r vs r' : List Value} {n : Nat} [h : SetS r n vs r'] : SetS (a :: r) (n + 1) vs (a :: r') := ⟨by
 have := h.out
 simp only [stc, List.take_succ_cons, List.cons_append, List.cons.injEq, true_and] at this ⊢
 rw [← this, show n + 1 + vs.length = n + vs.length + 1 by omega, List.drop_succ_cons], by have := h.fit; simp; omega⟩
theorem tl_store_sub {t b off n : Nat} {o p : Operand} {l l' vs : List Value} {T : TypeId} {f : Obj → SH} (ho : ev E o = some (.pointer (some ⟨b, off, none⟩))) (hp : ev E p = some (.agg ⟨vs⟩)) [hZ : ZJ x.P t n] [hU : Upd b L (.cells ⟨l⟩ T (0, 0)) f] [hS : SetS l off vs l'] (hn : vs.length = n) (h1 : vs.all (·.oneCell') = true)
  (k : TL x ops rest Q E ρ (f (.cells ⟨l'⟩ T (0, 0)))) : TL x ops (⟨none, .store t o p, ty, pos, af, none⟩ :: rest) Q E ρ L := by
 refine tl_store_a ho hp hn h1 (ble_le (by rw [← hn]; exact hS.fit)) ?_
 rw [hS.out]; exact k
end
end Go.Proofs.E
namespace Go.Proofs.E
open Go Go.Lib
set_option linter.unusedVariables false
set_option linter.unusedSimpArgs false
set_option linter.unusedSectionVars false
section
variable {x : Cx} {Q : Exit → Act → World → Prop} {E : Env} {ρ : Hp} {L L1 : SH} {ops : Array Oper} {rest tail : List Oper} {ty : TypeId} {pos : String} {af : Array Edge}
theorem y_slice_arr {o : Operand} {og oh : Option Operand} {t len e sz b off : Nat} {lo' hi' : Nat} (ho : ev E o = some (.pointer (some ⟨b, off, none⟩))) [hS : TyArr x.P t len e] [hZ : ZJ x.P e sz]
  (hg : match og with | some g => ∃ k, ev E g = some (.int k (lo' : Int)) | none => lo' = 0) (hh : match oh with | some h => ∃ k, ev E h = some (.int k (hi' : Int)) | none => hi' = len) (h1 : lo' ≤ hi') (h2 : hi' ≤ len) :
  Yl x (.slice t o og oh none) ty E ρ L (.slice (some (if len = lo' then ⟨b, off, none⟩ else ⟨b, off + lo' * sz, none⟩)) (hi' - lo') (len - lo')) := fun a' w _ _ _ _ ha hw => by
 obtain ⟨inf, g1, g2⟩ := hZ.out
 have hsz : (sizeOf e).run x.P w = .ok sz w := by simp [sizeOf, typeInfo, g1, g2]
 have hu : (underlying t).run x.P w = .ok (.array len e) w := by simp [underlying, hS.out]
 have hb1 : (Instr.sliceBounds false len len (og.map a'.eval) (oh.map a'.eval) none).run x.P w = .ok (lo', hi', len) w := by
  cases og with
  | none =>
   cases oh with
   | none => simp only at hg hh; subst hg; subst hh; simp [Instr.sliceBounds]
   | some h => simp only at hg hh; subst hg; obtain ⟨k, hk⟩ := hh; simp [Instr.sliceBounds, ha.eval hk, run_sliceBound, h2, Instr.sliceBound, asIntOf]
  | some g =>
   cases oh with
   | none => simp only at hg hh; subst hh; obtain ⟨k, hk⟩ := hg; simp [Instr.sliceBounds, ha.eval hk, Instr.sliceBound, asIntOf, h1]
   | some h => simp only at hg hh; obtain ⟨k, hk⟩ := hg; obtain ⟨k', hk'⟩ := hh; simp [Instr.sliceBounds, ha.eval hk, ha.eval hk', Instr.sliceBound, asIntOf, h1, h2]
 simp only [execOp, ha.eval ho, Instr.sliceAt, Sem.run_bind, hu, Result.andThen_ok, Instr.sureAddr, Sem.run_pure, Option.map_none, hb1, hsz, Yo]
theorem y_slice_arr_all {o : Operand} {t len e sz b off : Nat} (ho : ev E o = some (.pointer (some ⟨b, off, none⟩))) [hS : TyArr x.P t len e] [hZ : ZJ x.P e sz] :
  Yl x (.slice t o none none none) ty E ρ L (.slice (some ⟨b, off, none⟩) len len) := by
 have := y_slice_arr (x := x) (ρ := ρ) (L := L) (ty := ty) (og := none) (oh := none) (lo' := 0) (hi' := len) ho (hS := hS) (hZ := hZ) rfl rfl (Nat.zero_le _) (Nat.le_refl _)
 simpa using this
theorem y_slice_arr_l {o g : Operand} {t len e sz b off : Nat} {k : IntKind} {lo' : Int} (ho : ev E o = some (.pointer (some ⟨b, off, none⟩))) (hg : ev E g = some (.int k lo')) [hS : TyArr x.P t len e] [hZ : ZJ x.P e sz] (h0 : 0 ≤ lo') (h1 : lo' < len) :
  Yl x (.slice t o (some g) none none) ty E ρ L (.slice (some ⟨b, off + lo'.toNat * sz, none⟩) (len - lo'.toNat) (len - lo'.toNat)) := by
 have := y_slice_arr (x := x) (ρ := ρ) (L := L) (ty := ty) (og := some g) (oh := none) (lo' := lo'.toNat) (hi' := len) ho (hS := hS) (hZ := hZ) ⟨k, by rw [Int.toNat_of_nonneg h0]; exact hg⟩ rfl (by omega) (Nat.le_refl _)
 rwa [if_neg (by omega)] at this
theorem y_slice_arr_h {o h : Operand} {t len e sz b off : Nat} {k : IntKind} {hi' : Int} (ho : ev E o = some (.pointer (some ⟨b, off, none⟩))) (hh : ev E h = some (.int k hi')) [hS : TyArr x.P t len e] [hZ : ZJ x.P e sz] (h0 : 0 ≤ hi') (h1 : hi' ≤ len) :
  Yl x (.slice t o none (some h) none) ty E ρ L (.slice (some ⟨b, off, none⟩) hi'.toNat len) := by
 have := y_slice_arr (x := x) (ρ := ρ) (L := L) (ty := ty) (og := none) (oh := some h) (lo' := 0) (hi' := hi'.toNat) ho (hS := hS) (hZ := hZ) rfl ⟨k, by rw [Int.toNat_of_nonneg h0]; exact hh⟩ (by omega) (by omega)
 simpa using this
theorem y_slice_arr_lh {o g h : Operand} {t len e sz b off : Nat} {k k' : IntKind} {lo' hi' : Int} (ho : ev E o = some (.pointer (some ⟨b, off, none⟩))) (hg : ev E g = some (.int k lo')) (hh : ev E h = some (.int k' hi')) [hS : TyArr x.P t len e] [hZ : ZJ x.P e sz] (h0 : 0 ≤ lo') (h1 : lo' ≤ hi') (h2 : hi' ≤ len) (h3 : lo' < len) :
  Yl x (.slice t o (some g) (some h) none) ty E ρ L (.slice (some ⟨b, off + lo'.toNat * sz, none⟩) (hi'.toNat - lo'.toNat) (len - lo'.toNat)) := by
 have := y_slice_arr (x := x) (ρ := ρ) (L := L) (ty := ty) (og := some g) (oh := some h) (lo' := lo'.toNat) (hi' := hi'.toNat) ho (hS := hS) (hZ := hZ) ⟨k, by rw [Int.toNat_of_nonneg h0]; exact hg⟩ ⟨k', by rw [Int.toNat_of_nonneg (by omega)]; exact hh⟩ (by omega) (by omega)
 rwa [if_neg (by omega)] at this
theorem y_slice_m {o g h m : Operand} {t e sz len cap : Nat} {a : Option Addr} {k k' k2 : IntKind} {lo' hi' mx : Int} (ho : ev E o = some (.slice a len cap)) (hg : ev E g = some (.int k' lo')) (hh : ev E h = some (.int k hi')) (hm : ev E m = some (.int k2 mx)) [hS : ZT x.P t e] [hZ : ZJ x.P e sz]
  (h0 : 0 ≤ lo') (h1 : lo' ≤ hi') (h2 : hi' ≤ mx) (h3 : mx ≤ cap) :
  Yl x (.slice t o (some g) (some h) (some m)) ty E ρ L (.slice (if mx.toNat = lo'.toNat then a else a.map (·.add (lo'.toNat * sz))) (hi'.toNat - lo'.toNat) (mx.toNat - lo'.toNat)) := fun a' w _ _ _ _ ha hw => by
 obtain ⟨inf, g1, g2⟩ := hZ.out
 have hel : x.P.elem t = e := by simp [Program.elem, hS.out]
 have ht : x.P.underlying t = some (.slice (x.P.elem t)) := by rw [hel]; exact hS.out
 have hsz : (sizeOf e).run x.P w = .ok sz w := by simp [sizeOf, typeInfo, g1, g2]
 have e1 : (mx.toNat : Int) = mx := Int.toNat_of_nonneg (by omega)
 have e2 : (hi'.toNat : Int) = hi' := Int.toNat_of_nonneg (by omega)
 have hu : (underlying t).run x.P w = .ok (.slice e) w := by simp [underlying, hS.out]
 have hb1 : (Instr.sliceBounds true len cap (some (.int k' lo')) (some (.int k hi')) (some (.int k2 mx))).run x.P w = .ok (lo'.toNat, hi'.toNat, mx.toNat) w := by
  simp [Instr.sliceBounds, Instr.sliceBound, asIntOf, h0, h1, h2, h3, e1, e2, show (0 : Int) ≤ hi' by omega, show (0 : Int) ≤ mx by omega]
 have key : (Instr.slice t (.slice a len cap) (some (.int k' lo')) (some (.int k hi')) (some (.int k2 mx))).run x.P w = .ok (.slice (if mx.toNat = lo'.toNat then a else a.map (·.add (lo'.toNat * sz))) (hi'.toNat - lo'.toNat) (mx.toNat - lo'.toNat)) w := by
  simp only [Instr.slice, Sem.run_bind, hu, Result.andThen_ok, hb1, hsz, Sem.run_pure]
 simp only [execOp, ha.eval ho, ha.eval hh, ha.eval hg, ha.eval hm, Option.map_some, Sem.run_bind, run_sliceAt_slice _ _ _ _ _ _ ht, key, Result.andThen_ok, Sem.run_pure]
theorem y_slice_hm {o h m : Operand} {t e sz len cap : Nat} {a : Option Addr} {k k2 : IntKind} {hi' mx : Int} (ho : ev E o = some (.slice a len cap)) (hh : ev E h = some (.int k hi')) (hm : ev E m = some (.int k2 mx)) [hS : ZT x.P t e] [hZ : ZJ x.P e sz]
  (h0 : 0 ≤ hi') (h2 : hi' ≤ mx) (h3 : mx ≤ cap) : Yl x (.slice t o none (some h) (some m)) ty E ρ L (.slice a hi'.toNat mx.toNat) := fun a' w _ _ _ _ ha hw => by
 obtain ⟨inf, g1, g2⟩ := hZ.out
 have hel : x.P.elem t = e := by simp [Program.elem, hS.out]
 have ht : x.P.underlying t = some (.slice (x.P.elem t)) := by rw [hel]; exact hS.out
 have hsz : (sizeOf e).run x.P w = .ok sz w := by simp [sizeOf, typeInfo, g1, g2]
 have e1 : (mx.toNat : Int) = mx := Int.toNat_of_nonneg (by omega)
 have hu : (underlying t).run x.P w = .ok (.slice e) w := by simp [underlying, hS.out]
 have hb1 : (Instr.sliceBounds true len cap none (some (.int k hi')) (some (.int k2 mx))).run x.P w = .ok (0, hi'.toNat, mx.toNat) w := by
  simp [Instr.sliceBounds, Instr.sliceBound, asIntOf, h0, h2, h3, e1, show (0 : Int) ≤ mx by omega]
 have ea : (if mx.toNat = 0 then a else a.map (·.add (0 * sz))) = a := by
  split
  ·rfl
  ·cases a with
   | none => rfl
   | some a => simp [Addr.add]
 have key : (Instr.slice t (.slice a len cap) none (some (.int k hi')) (some (.int k2 mx))).run x.P w = .ok (.slice a hi'.toNat mx.toNat) w := by
  simp only [Instr.slice, Sem.run_bind, hu, Result.andThen_ok, hb1, hsz, Sem.run_pure, ea, Nat.sub_zero]
 simp only [execOp, ha.eval ho, ha.eval hh, ha.eval hm, Option.map_some, Option.map_none, Sem.run_bind, run_sliceAt_slice _ _ _ _ _ _ ht, key, Result.andThen_ok, Sem.run_pure]
theorem y_shl8 {p q : Operand} {t t' : TypeId} {k k' : IntKind} {m : Int} (h1 : ev E p = some (.int k m)) (h2 : ev E q = some (.int k' 8)) (h : lo k ≤ m * 256 ∧ m * 256 ≤ hi k) (hk : 8 ≤ k.bits) : Yl x (.binOp .shl t p q t') ty E ρ L (.int k (m * 256)) := by
 have hc : min (Int.toNat 8) k.bits = 8 := by simp only [show Int.toNat 8 = 8 from rfl]; omega
 have := y_shl (x := x) (E := E) (ρ := ρ) (L := L) (ty := ty) (t := t) (t' := t') (c := 8) h1 h2 (by decide) hc
 rw [show (2 : Int) ^ 8 = 256 from rfl, wrap_id h] at this
 exact this
theorem y_or8 {p q : Operand} {t t' : TypeId} {m n : Int} (h1 : ev E p = some (.int .u64 m)) (h2 : ev E q = some (.int .u64 n)) (h : 0 ≤ m ∧ m % 256 = 0 ∧ 0 ≤ n ∧ n < 256 ∧ m + n ≤ 18446744073709551615) : Yl x (.binOp .or t p q t') ty E ρ L (.int .u64 (m + n)) := fun a w _ _ _ _ ha _ => by
 obtain ⟨hm0, hmd, hn0, hn1, hs⟩ := h
 have key : IntKind.u64.wrap ((BitVec.ofInt 64 m ||| BitVec.ofInt 64 n).toNat : Int) = m + n := by
  obtain ⟨a, rfl⟩ : ∃ a : Nat, m = (a * 2 ^ 8 : Nat) := ⟨(m / 256).toNat, by have : (2 : Nat) ^ 8 = 256 := rfl; omega⟩
  obtain ⟨b, rfl⟩ : ∃ b : Nat, n = b := ⟨n.toNat, by omega⟩
  have hb : b < 2 ^ 8 := by have : (2 : Nat) ^ 8 = 256 := rfl; omega
  have h8 : (2 : Nat) ^ 8 = 256 := rfl
  have h64 : (2 : Nat) ^ 64 = 18446744073709551616 := rfl
  rw [BitVec.toNat_or, BitVec.ofInt_natCast, BitVec.ofInt_natCast, BitVec.toNat_ofNat, BitVec.toNat_ofNat, Nat.mod_eq_of_lt (by omega), Nat.mod_eq_of_lt (by omega), Nat.mul_comm a, ← Nat.two_pow_add_eq_or_of_lt hb a]
  rw [show IntKind.u64.wrap ((2 ^ 8 * a + b : Nat) : Int) = ((2 ^ 8 * a + b : Nat) : Int) from wrap_id (by simp only [lo, hi]; omega)]
  omega
 have hb : (Op.intBits .or .u64 m n).run x.P w = .ok (.int .u64 (m + n)) w := by
  show (pure (.int .u64 (IntKind.u64.wrap ((BitVec.ofInt 64 m ||| BitVec.ofInt 64 n).toNat : Int))) : Sem Value).run x.P w = _
  rw [key]; rfl
 simp [execOp, ha.eval h1, ha.eval h2, eqGuard, binOp, hb]
theorem tl_mark {d t e b n c : Nat} {p : Operand} {C : List Value} {T : TypeId} {f : Obj → SH} (hp : ev E p = some (.slice (some ⟨b, 0, none⟩) n c)) [hS : ZT x.P t e] [hE : YV x.P e .u8] [hU : Upd b L (.cells ⟨C⟩ T (0, 0)) f] (hd : Nat.blt d x.N = true)
  (k : TL x ops rest Q ((d, .slice (some ⟨b, 0, none⟩) n c) :: E) ρ (f (.cells ⟨C⟩ T (C.length, C.length + 1)))) :
  TL x ops (⟨some d, .convert t t p, ty, pos, af, none⟩ :: rest) Q E ρ L := fun a w ha hw => by
 refine Yg rfl rfl ?_
 obtain ⟨hs, hb⟩ := hw.upd hU (.cells ⟨C⟩ T (C.length, C.length + 1))
 have hsh : w.shape? b = some (T, C.length) := by simp [World.shape?, hb]
 have hfr : w.freeze ⟨b, C.length, none⟩ 1 = putB w b (.cells ⟨C⟩ T (C.length, C.length + 1)) := by
  unfold World.freeze putB
  rw [if_neg (by decide)]
  congr 1
  obtain ⟨hlt, hv⟩ := Array.getElem?_eq_some_iff.1 hb
  apply Array.ext_getElem?
  intro i
  rw [Array.getElem?_modify]
  by_cases hi : b = i
  ·subst hi; simp [hlt, hv]
  ·rw [if_neg hi, Array.getElem?_setIfInBounds_ne hi]
 have hrun : (convert t t (.slice (some ⟨b, 0, none⟩) n c)).run x.P w = .ok (.slice (some ⟨b, 0, none⟩) n c) (putB w b (.cells ⟨C⟩ T (C.length, C.length + 1))) := by
  simp [convert, underlying, hS.out, hE.out, markStringish, hsh, hfr]
 have : (execOp a.eval ⟨some d, .convert t t p, ty, pos, af, none⟩).run x.P w = .ok (.value (.slice (some ⟨b, 0, none⟩) n c)) (putB w b (.cells ⟨C⟩ T (C.length, C.length + 1))) := by
  simp only [execOp, ha.eval hp, Sem.run_bind, hrun, Result.andThen_ok, Sem.run_pure]
 rw [this]
 exact k _ _ (ha.put (Nat.le_of_ble_eq_true hd) _) hs
end
end Go.Proofs.E
