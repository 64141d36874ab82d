/- Records of layer 12 as data, their bytes, what their functions come to, and which of them may be. Part 3 of 18. -/
import Derived.Test.YtbchgeledcfklaaGreatJ2
import Derived.Laws.Slices
namespace Go.Proofs.E
open Go
set_option linter.unusedVariables false
set_option linter.unusedSimpArgs false
set_option linter.unusedSectionVars false
/-! ## slices whose elements never turn -/
/-- a slice of plain values -/
structure SIn (ρ : Hp) {α : Type} (g : α → Value) (a : Option Addr) (n : Nat) (l : List α) : Prop where
  len : l.length = n
  out : n = 0 ∨ ∃ b off C T fr, a = some ⟨b, off, none⟩ ∧ ρ b = some (.cells ⟨C⟩ T fr) ∧ (C.drop off).take n = l.map g
/-- a slice of parts -/
structure AIn (ρ : Hp) {α : Type} (sz : Nat) (g : α → List Value) (a : Option Addr) (n : Nat) (l : List α) : Prop where
  len : l.length = n
  out : n = 0 ∨ ∃ b off C T fr, a = some ⟨b, off, none⟩ ∧ ρ b = some (.cells ⟨C⟩ T fr) ∧ off + n * sz ≤ C.length ∧ (C.drop off).take (n * sz) = (l.map g).flatten
  sz : ∀ x ∈ l, (g x).length = sz
section
variable {α : Type} {ρ ρ' : Hp} {a : Option Addr} {n : Nat} {l : List α}
theorem SIn.mono {g : α → Value} (h : SIn ρ g a n l) (hle : ρ.le ρ') : SIn ρ' g a n l := ⟨h.len, h.out.imp id fun ⟨b, off, C, T, fr, h1, h2, h3⟩ => ⟨b, off, C, T, fr, h1, hle _ _ h2, h3⟩⟩
theorem AIn.mono {sz} {g : α → List Value} (h : AIn ρ sz g a n l) (hle : ρ.le ρ') : AIn ρ' sz g a n l := ⟨h.len, h.out.imp id fun ⟨b, off, C, T, fr, h1, h2, h3⟩ => ⟨b, off, C, T, fr, h1, hle _ _ h2, h3⟩, h.sz⟩
theorem SIn.nil {g : α → Value} : SIn ρ g a 0 [] := ⟨rfl, .inl rfl⟩
theorem AIn.nil {sz} {g : α → List Value} : AIn ρ sz g a 0 [] := ⟨rfl, .inl rfl, by simp⟩
theorem SIn.srcV {g : α → Value} {x : Cx} {L : SH} (h : SIn ρ g a n l) : SrcV x ρ L a (l.map g) := by
  rcases h.out with h0 | ⟨b, off, C, T, fr, rfl, h2, h3⟩
  · left
    have := h.len
    rw [h0] at this
    simp [List.eq_nil_of_length_eq_zero this]
  · exact .inr ⟨b, off, rfl, Src.imm (n := n) h2 h3⟩
theorem AIn.srcV {sz} {g : α → List Value} {x : Cx} {L : SH} (h : AIn ρ sz g a n l) : SrcV x ρ L a ((l.map g).flatten) := by
  rcases h.out with h0 | ⟨b, off, C, T, fr, rfl, h2, h4, h3⟩
  · left
    have := h.len
    rw [h0] at this
    simp [List.eq_nil_of_length_eq_zero this]
  · exact .inr ⟨b, off, rfl, Src.imm (n := n * sz) h2 h3⟩
theorem SIn.get {g : α → Value} (h : SIn ρ g a n l) {i : Nat} (hi : i < l.length) : ∃ b off C T fr, a = some ⟨b, off, none⟩ ∧ ρ b = some (.cells ⟨C⟩ T fr) ∧ C[off + i * 1]? = some (g l[i]) := by
  have hn := h.len
  obtain ⟨b, off, C, T, fr, h1, h2, h3⟩ := h.out.resolve_left (by omega)
  refine ⟨b, off, C, T, fr, h1, h2, ?_⟩
  have := congrArg (fun l : List Value => l[i]?) h3
  simp only [List.getElem?_map] at this
  rw [List.getElem?_take_of_lt (by omega), List.getElem?_drop, List.getElem?_eq_getElem hi] at this
  rw [Nat.mul_one]; simpa using this
theorem flat_at (g : α → List Value) (sz : Nat) : ∀ (l : List α) (i : Nat) (h : i < l.length), (∀ x ∈ l, (g x).length = sz) → (((l.map g).flatten).drop (i * sz)).take sz = g l[i]
  | [], i, h, _ => by simp at h
  | p :: r, 0, h, hl => by
    have h1 := hl p (by simp)
    simp only [List.map_cons, List.flatten_cons, Nat.zero_mul, List.drop_zero, List.getElem_cons_zero]
    rw [List.take_append_of_le_length (by omega), List.take_of_length_le (by omega)]
  | p :: r, i + 1, h, hl => by
    have h1 := hl p (by simp)
    have ih := flat_at g sz r i (by simpa using h) (fun q hq => hl q (by simp [hq]))
    simp only [List.map_cons, List.flatten_cons, List.getElem_cons_succ]
    have e : (i + 1) * sz = (g p).length + i * sz := by rw [h1, Nat.add_mul]; omega
    rw [e, ← List.drop_drop, List.drop_left]
    exact ih
theorem flat_len (g : α → List Value) (sz : Nat) : ∀ (l : List α), (∀ x ∈ l, (g x).length = sz) → ((l.map g).flatten).length = l.length * sz
  | [], _ => by simp
  | p :: r, hl => by
    have h1 := hl p (by simp)
    have ih := flat_len g sz r (fun q hq => hl q (by simp [hq]))
    simp only [List.map_cons, List.flatten_cons, List.length_append, List.length_cons, ih, h1, Nat.add_mul]; omega
theorem AIn.get {sz} {g : α → List Value} (h : AIn ρ sz g a n l) {i : Nat} (hi : i < l.length) : ∃ b off C T fr, a = some ⟨b, off, none⟩ ∧ ρ b = some (.cells ⟨C⟩ T fr) ∧ off + i * sz + sz ≤ C.length ∧ (C.drop (off + i * sz)).take sz = g l[i] := by
  have hn := h.len
  obtain ⟨b, off, C, T, fr, h1, h2, h4, h3⟩ := h.out.resolve_left (by omega)
  have hle : (i + 1) * sz ≤ n * sz := Nat.mul_le_mul_right _ (by omega)
  rw [Nat.add_mul] at hle
  refine ⟨b, off, C, T, fr, h1, h2, by omega, ?_⟩
  have := flat_at g sz l i hi h.sz
  rw [← h3] at this
  rw [← this, List.drop_take, List.take_take, List.drop_drop]
  congr 1
  omega
/-- a part of a slice -/
theorem SIn.sub {g : α → Value} (h : SIn ρ g a n l) {lo' hi' : Nat} (h1 : lo' ≤ hi') (h2 : hi' ≤ n) {cap : Nat} (hc : n ≤ cap) : SIn ρ g (if cap = lo' then a else a.map (·.add (lo' * 1))) (hi' - lo') ((l.drop lo').take (hi' - lo')) := by
  have hn := h.len
  refine ⟨by simp; omega, ?_⟩
  by_cases h0 : hi' - lo' = 0
  · exact .inl h0
  · right
    obtain ⟨b, off, C, T, fr, rfl, e2, e3⟩ := h.out.resolve_left (by omega)
    rw [if_neg (by omega)]
    refine ⟨b, off + lo', C, T, fr, by simp [addr_add], e2, ?_⟩
    rw [List.map_take, List.map_drop, ← e3, List.drop_take, List.take_take, List.drop_drop, Nat.min_eq_left (by omega)]
theorem SIn.take {g : α → Value} (h : SIn ρ g a n l) {hi' : Nat} (h2 : hi' ≤ n) : SIn ρ g a hi' (l.take hi') := by
  have hn := h.len
  refine ⟨by simp; omega, ?_⟩
  by_cases h0 : hi' = 0
  · exact .inl h0
  · right
    obtain ⟨b, off, C, T, fr, rfl, e2, e3⟩ := h.out.resolve_left (by omega)
    refine ⟨b, off, C, T, fr, rfl, e2, ?_⟩
    rw [List.map_take, ← e3, List.take_take, Nat.min_eq_left h2]
theorem AIn.take {sz} {g : α → List Value} (h : AIn ρ sz g a n l) {hi' : Nat} (h2 : hi' ≤ n) : AIn ρ sz g a hi' (l.take hi') := by
  have hn := h.len
  refine ⟨by simp; omega, ?_, fun x hx => h.sz x (List.mem_of_mem_take hx)⟩
  by_cases h0 : hi' = 0
  · exact .inl h0
  · right
    obtain ⟨b, off, C, T, fr, rfl, e2, e4, e3⟩ := h.out.resolve_left (by omega)
    have hle : hi' * sz ≤ n * sz := Nat.mul_le_mul_right _ h2
    refine ⟨b, off, C, T, fr, rfl, e2, by omega, ?_⟩
    have hl1 : ((l.take hi').map g).flatten = ((l.map g).flatten).take (hi' * sz) := by
      have hsplit : (l.map g).flatten = ((l.take hi').map g).flatten ++ ((l.drop hi').map g).flatten := by
        rw [← List.flatten_append, ← List.map_append, List.take_append_drop]
      rw [hsplit, List.take_left' (by rw [flat_len g sz _ (fun x hx => h.sz x (List.mem_of_mem_take hx)), List.length_take, Nat.min_eq_left (by omega)])]
    rw [hl1, ← e3, List.take_take, Nat.min_eq_left hle]
/-- what was made and is never changed from now on -/
theorem OwnS.sIn {g : α → Value} {v : Value} {sp : List Value} {T : TypeId} (h : OwnS v n (l.map g) sp 1) (hf : ∀ p ∈ ownC v (l.map g) sp T, ρ p.1 = some p.2) : ∃ a cap, v = .slice a n cap ∧ n ≤ cap ∧ SIn ρ g a n l := by
  rcases h.out with ⟨rfl, rfl, h2, h3⟩ | ⟨b, c, rfl, h2, h3, h4⟩
  · have : l = [] := by simpa using h2
    subst this
    exact ⟨none, 0, rfl, Nat.le_refl _, SIn.nil⟩
  · refine ⟨some ⟨b, 0, none⟩, c, rfl, h4, by simpa using h2, .inr ⟨b, 0, _, T, (0, 0), rfl, hf (b, _) (List.mem_singleton.2 rfl), ?_⟩⟩
    rw [List.drop_zero, List.take_left' (by simpa using h2)]
theorem OwnS.aIn {sz : Nat} {g : α → List Value} {v : Value} {sp : List Value} {T : TypeId} (h : OwnS v n ((l.map g).flatten) sp sz) (hl : l.length = n) (hg : ∀ x ∈ l, (g x).length = sz) (hf : ∀ p ∈ ownC v ((l.map g).flatten) sp T, ρ p.1 = some p.2) : ∃ a cap, v = .slice a n cap ∧ n ≤ cap ∧ AIn ρ sz g a n l := by
  rcases h.out with ⟨rfl, rfl, h2, h3⟩ | ⟨b, c, rfl, h2, h3, h4⟩
  · have : l = [] := List.eq_nil_of_length_eq_zero hl
    subst this
    exact ⟨none, 0, rfl, Nat.le_refl _, AIn.nil⟩
  · refine ⟨some ⟨b, 0, none⟩, c, rfl, h4, hl, .inr ⟨b, 0, _, T, (0, 0), rfl, hf (b, _) (List.mem_singleton.2 rfl), by simp [List.length_append]; simp at h2; omega, ?_⟩, hg⟩
    rw [List.drop_zero, List.take_left' h2]
end
section
variable {x : Cx} {Q : Exit → Act → World → Prop} {E : Env} {ρ : Hp} {L L1 : SH} {ops : Array Oper} {rest tail : List Oper} {ty : TypeId} {pos : String} {af : Array Edge}
theorem y_conv_i {p : Operand} {s t : TypeId} {k k' : IntKind} {n : Int} (h : ev E p = some (.int k' n)) [hk : TyInt x.P t k] [hs : TyInt x.P s k'] (hb : lo k ≤ n ∧ n ≤ hi k) : Yl x (.convert s t p) ty E ρ L (.int k n) := by
  have := y_conv (x := x) (E := E) (ρ := ρ) (L := L) (ty := ty) (s := s) (t := t) h
  rwa [wrap_id hb] at this
theorem y_lookup0 {m i : Operand} {t kt e b : Nat} {kk : IntKind} {z : Value} {es : List MapEntry} {ck : Nat} {k : Int} (hm : ev E m = some (.map (some b))) (hi : ev E i = some (.int kk k)) [hM : TyMap x.P t kt e] [hK : TyInt x.P kt kk] [hz : TyZero x.P e z]
    [hF : Find b L (.map ⟨es⟩ ck)] (hes : IntKeys kk es) (hg : mget es k = none) : Yl x (.lookup t m i false) ty E ρ L z := by
  have := y_lookup (x := x) (ty := ty) (ρ := ρ) hm hi (hM := hM) (hK := hK) (hz := hz) (hF := hF) hes
  rw [hg] at this; exact this
theorem y_conv_in {p : Operand} {s t e : TypeId} {a : Option Addr} {n c : Nat} {l : List UInt8} [hT : TyStr x.P t] [hS : TySlice x.P s e] [hE : TyInt x.P e .u8] (h : ev E p = some (.slice a n c)) (hs : SIn ρ u8c a n l) : Yl x (.convert s t p) ty E ρ L (strV l) := y_conv_bs h hs.srcV hs.len
theorem y_eqc_l {o : BinOp} {p q : Operand} {t t' : TypeId} {u v : List Value} {b c d : Bool} (h1 : ev E p = some (.agg ⟨u⟩)) (h2 : ev E q = some (.agg ⟨v⟩)) [hG : NoGuard x.P t] [hC : EqC x.P 8 t (.agg ⟨u⟩) (.agg ⟨v⟩) c] (hc : c = d)
    (hb : eqB o d = some b) : Yl x (.binOp o t p q t') ty E ρ L (.bool b) := by subst hc; exact y_eqc h1 h2 hb
theorem SrcV.find {b off n : Nat} {l ys : List Value} {T : TypeId} {fr : Nat × Nat} [hF : Find b L (.cells ⟨l⟩ T fr)] (h : (l.drop off).take n = ys) : SrcV x ρ L (some ⟨b, off, none⟩) ys := .inr ⟨b, off, rfl, Src.find (n := n) h⟩
theorem SrcV.lit {b : Nat} {ys : List Value} {T : TypeId} {fr : Nat × Nat} [hF : Find b L (.cells ⟨ys⟩ T fr)] : SrcV x ρ L (some ⟨b, 0, none⟩) ys := .inr ⟨b, 0, rfl, Src.find (n := ys.length) (by simp)⟩
theorem SrcV.own {v : Value} {a : Option Addr} {n cap : Nat} {xs sp : List Value} {sz : Nat} {T : TypeId} {L' : SH} (h : OwnS (.slice a n cap) n xs sp sz) [hR : Rem (ownC (.slice a n cap) xs sp T) L L'] : SrcV x ρ L a xs := by
  rcases h.out with ⟨e1, rfl, h2, h3⟩ | ⟨b, c, e1, h2, h3, h4⟩
  · exact .inl h2
  · cases e1
    refine .inr ⟨b, 0, rfl, fun w hw j c hj => ?_⟩
    have hw' := hw.perm (L' := ownC (.slice (some ⟨b, 0, none⟩) n cap) xs sp T :: L') (by simpa using hR.out)
    have hb : w.heap[b]? = some (.cells ⟨xs ++ sp⟩ T (0, 0)) := hw'.here (b, .cells ⟨xs ++ sp⟩ T (0, 0)) (by simp [ownC])
    simp only [World.cell?, hb, Option.isSome_none, Bool.false_eq_true, if_false, Nat.zero_add]
    simp only [List.getElem?_toArray]
    rw [List.getElem?_append_left (List.getElem?_eq_some_iff.1 hj).1]; exact hj
theorem y_load_sub {o : Operand} {t b off n : Nat} {l m : List Value} {T : TypeId} {fr : Nat × Nat} (h : ev E o = some (.pointer (some ⟨b, off, none⟩))) [hA : TyA x.P t n] [hF : Find b L (.cells ⟨l⟩ T fr)] [hS : SubL l off n m] : Yl x (.load t o) ty E ρ L (.agg ⟨m⟩) := by
  by_cases h0 : n = 0
  · subst h0
    have hm : m = [] := List.eq_nil_of_length_eq_zero hS.len
    by_cases hl : off ≤ l.length
    · exact y_load_part h (by omega) hS.out
    · intro a w _ _ _ _ ha hw
      obtain ⟨d, i, h1, h2, h3, h4⟩ := hA.out
      have hag : (isAgg t).run x.P w = .ok true w := by
        simp only [isAgg, underlying, Sem.run_bind, run_program, Result.andThen_ok, h1, Sem.run_pure]
        cases d <;> simp_all
      have hl0 := run_loadCells_list (P := x.P) w ⟨b, off, none⟩ [] (by simp)
      simp only [List.length_nil] at hl0
      simp [execOp, ha.eval h, Instr.loadAt, Instr.sureAddr, loadVar, hag, sizeOf, typeInfo, h3, h4, hl0, hm]
  · have := hS.out
    have hl := hS.len
    rw [← this] at hl
    simp at hl
    exact y_load_part h (by omega) this
theorem y_field_sub {o : Operand} {s f d ft n : Nat} {l m : List Value} (h : ev E o = some (.agg ⟨l⟩)) [hF : Fld x.P s f d ft] [hT : TyA x.P ft n] [hS : SubL l d n m] : Yl x (.field s o f) ty E ρ L (.agg ⟨m⟩) := y_field_a h hS.out
class SetS (l : List Value) (off : Nat) (vs : List Value) (l' : outParam (List Value)) : Prop where
  out : stc l off vs = l'
  fit : off + vs.length ≤ l.length
instance SetS.nil {l : List Value} : SetS l 0 [] l := ⟨by simp [stc], by simp⟩
instance SetS.cons {a v : Value} {r vs r' : List Value} [h : SetS r 0 vs r'] : SetS (a :: r) 0 (v :: vs) (v :: r') := ⟨by
  have := h.out
  simp [stc] at this ⊢
  exact this, by have := h.fit; simp at this ⊢; omega⟩
instance SetS.drop {a : Value} {r vs r' : List Value} {n : Nat} [h : SetS r n vs r'] : SetS (a :: r) (n + 1) vs (a :: r') := ⟨by
  have := h.out
  simp only [stc, List.take_succ_cons, List.cons_append, List.cons.injEq, true_and] at this ⊢
  rw [← this, show n + 1 + vs.length = n + vs.length + 1 by omega, List.drop_succ_cons], by have := h.fit; simp; omega⟩
theorem tl_store_sub {t b off n : Nat} {o p : Operand} {l l' vs : List Value} {T : TypeId} {f : Obj → SH} (ho : ev E o = some (.pointer (some ⟨b, off, none⟩))) (hp : ev E p = some (.agg ⟨vs⟩)) [hZ : TySz x.P t n] [hU : Upd b L (.cells ⟨l⟩ T (0, 0)) f] [hS : SetS l off vs l'] (hn : vs.length = n) (h1 : vs.all (·.oneCell') = true)
    (k : TL x ops rest Q E ρ (f (.cells ⟨l'⟩ T (0, 0)))) : TL x ops (⟨none, .store t o p, ty, pos, af, none⟩ :: rest) Q E ρ L := by
  refine tl_store_a ho hp hn h1 (ble_le (by rw [← hn]; exact hS.fit)) ?_
  rw [hS.out]; exact k
end
end Go.Proofs.E

namespace Go.Proofs.E
open Go Go.Lib
set_option linter.unusedVariables false
set_option linter.unusedSimpArgs false
set_option linter.unusedSectionVars false
/-! ## bytes that are appended to: own, or full and never turning -/
def AppB (v : Value) (c : List (Nat × Obj)) (T : TypeId) (l : List UInt8) : Prop :=
  (∃ sp, OwnS v l.length (l.map u8c) sp 1 ∧ c = ownC v (l.map u8c) sp T) ∨ (∃ b fr, v = .slice (some ⟨b, 0, none⟩) l.length l.length ∧ l ≠ [] ∧ c = [(b, .cells ⟨l.map u8c⟩ T fr)])
theorem OwnS.appB {v : Value} {n : Nat} {l : List UInt8} {sp : List Value} {T : TypeId} (h : OwnS v n (l.map u8c) sp 1) (hn : n = l.length) : AppB v (ownC v (l.map u8c) sp T) T l := .inl ⟨sp, by subst hn; exact h, rfl⟩
section
variable {x : Cx} {Q : Exit → Act → World → Prop} {E : Env} {ρ : Hp} {L L1 : SH} {ops : Array Oper} {rest tail : List Oper} {ty : TypeId} {pos : String} {af : Array Edge}
/-- a slice that is full, and only read, is appended to -/
theorem tl_app_full {d t e sz by' n m cx : Nat} {s y : Operand} {z : Value} {xs ys : List Value} {a0 : Addr} {a : Option Addr} [hS : TySlice x.P t e] [hZ : TySz x.P e sz] [hB : TyBytes x.P e by'] [hz : TyZero x.P e z]
    (hs : ev E s = some (.slice (some a0) n n)) (hy : ev E y = some (.slice a m cx)) (hx : SrcV x ρ L (some a0) xs) (hxl : xs.length = n * sz) (hx0 : xs ≠ []) (hsrc : SrcV x ρ L a ys) (hlen : ys.length = m * sz) (hy0 : ys ≠ [])
    (hsz : 0 < sz) (hzs : z.cells.toList.length = sz) (hb : (n + m) * by' ≤ 140737488355328) (hm : n + m ≤ 9223372036854775807) (hd : Nat.blt d x.N = true)
    (k : ∀ v' sp', OwnS v' (n + m) (xs ++ ys) sp' sz → TL x ops rest Q ((d, v') :: E) ρ (ownC v' (xs ++ ys) sp' e :: L)) :
    TL x ops (⟨some d, .call { callee := .builtin .append, args := #[s, y], argTypes := #[t, t] }, ty, pos, af, none⟩ :: rest) Q E ρ L := fun a' w ha hw => by
  refine wpListIn_intro rfl rfl ?_
  obtain ⟨i, g1, g2⟩ := hZ.out
  obtain ⟨i2, g3, g4⟩ := hB.out
  obtain ⟨i3, g5, g6⟩ := hz.out
  rw [g1] at g3 g5
  cases g3; cases g5
  subst g2; subst g4
  obtain ⟨bx, ox, rfl, hsr⟩ := hsrc.resolve_left hy0
  obtain ⟨b0, o0, e0, hsr0⟩ := hx.resolve_left hx0
  simp only [Option.some.injEq] at e0
  subst e0
  have hm0 : 0 < m := by
    rcases Nat.eq_zero_or_pos m with h | h
    · subst h; simp at hlen; exact absurd hlen hy0
    · exact h
  have hzs' : z.cells.size = i.size := by simpa using hzs
  have hcells : ∀ j c, ys[j]? = some c → w.cell? ((⟨bx, ox, none⟩ : Addr).add j) = some c := fun j c hj => by rw [addr_add]; exact hsr w hw j c hj
  have hold : ∀ j c, xs[j]? = some c → w.cell? ((⟨b0, o0, none⟩ : Addr).add j) = some c := fun j c hj => by rw [addr_add]; exact hsr0 w hw j c hj
  have hexec : ∀ (v' : Value) (w' : World), (Builtin.append_ #[t, t] ty #[.slice (some ⟨b0, o0, none⟩) n n, .slice (some ⟨bx, ox, none⟩) m cx]).run x.P w = .ok v' w' →
      (execOp a'.eval ⟨some d, .call { callee := .builtin .append, args := #[s, y], argTypes := #[t, t] }, ty, pos, af, none⟩).run x.P w = .ok (.value v') w' := fun v' w' hr => by
    simp only [execOp, resolve, Sem.run_bind, Sem.run_pure, Result.andThen_ok, invoke, builtin]
    have hargs : Array.map a'.eval #[s, y] = #[.slice (some ⟨b0, o0, none⟩) n n, .slice (some ⟨bx, ox, none⟩) m cx] := by simp [ha.eval hs, ha.eval hy]
    rw [hargs, hr]
    rfl
  have hg : n + m ≤ grownCap w (n + m) n e := by simp only [grownCap, Question.cut]; omega
  have hzl : ∀ c, (Builtin.zeroCells z.cells c).toList.length = c * i.size := fun c => by
    have := size_zeroCells z.cells c
    rw [hzs'] at this; simpa using this
  have hrun := run_append_grow (P := x.P) (w := w) t ty e i z hS.out g1 g6 ⟨b0, o0, none⟩ n n xs hxl hold ⟨bx, ox, none⟩ m cx ys hlen hcells (by omega) (by omega) (growslice_fits (by omega) hb)
  rw [hexec _ _ hrun]
  have hs2 := (hw.drew).new (.cells (xs.toArray ++ ys.toArray ++ Builtin.zeroCells z.cells (grownCap w (n + m) n e - (n + m))) e (0, 0))
  refine k (.slice (some ⟨w.heap.size, 0, none⟩) (n + m) (grownCap w (n + m) n e)) (Builtin.zeroCells z.cells (grownCap w (n + m) n e - (n + m))).toList ?_ _ _ (ha.put (Nat.le_of_ble_eq_true hd) _) ?_
  · refine ⟨.inr ⟨w.heap.size, grownCap w (n + m) n e, rfl, by simp [Nat.add_mul]; omega, ?_, by omega⟩⟩
    rw [hzl]; simp only [List.length_append, hlen, hxl, ← Nat.add_mul]
    rw [show n + m + (grownCap w (n + m) n e - (n + m)) = grownCap w (n + m) n e by omega]
  · have : ownC (.slice (some ⟨w.heap.size, 0, none⟩) (n + m) (grownCap w (n + m) n e)) (xs ++ ys) (Builtin.zeroCells z.cells (grownCap w (n + m) n e - (n + m))).toList e = [(w.heap.size, .cells (xs.toArray ++ ys.toArray ++ Builtin.zeroCells z.cells (grownCap w (n + m) n e - (n + m))) e (0, 0))] := by
      simp only [ownC]
      congr 3
      apply Array.ext'; simp
    rw [this]
    exact hs2
/-- bytes are appended to whatever may be appended to -/
theorem tl_appB {d t e m cx : Nat} {s y : Operand} {v : Value} {c : List (Nat × Obj)} {l ys : List UInt8} {a : Option Addr} [hS : TySlice x.P t e] [hZ : TySz x.P e 1] [hB : TyBytes x.P e 1] [hz : TyZero x.P e (.int .u8 0)]
    (hs : ev E s = some v) (hy : ev E y = some (.slice a m cx)) (h : AppB v c e l) [hR : Rem c L L1] (hsrc : SrcV x ρ L1 a (ys.map u8c)) (hlen : ys.length = m) (hy0 : ys ≠ [])
    (hb : l.length + m ≤ 140737488355328) (hd : Nat.blt d x.N = true)
    (k : ∀ v' sp', OwnS v' (l ++ ys).length ((l ++ ys).map u8c) sp' 1 → TL x ops rest Q ((d, v') :: E) ρ (ownC v' ((l ++ ys).map u8c) sp' e :: L1)) :
    TL x ops (⟨some d, .call { callee := .builtin .append, args := #[s, y], argTypes := #[t, t] }, ty, pos, af, none⟩ :: rest) Q E ρ L := by
  have hk : ∀ v' sp', OwnS v' (l.length + m) (l.map u8c ++ ys.map u8c) sp' 1 → TL x ops rest Q ((d, v') :: E) ρ (ownC v' (l.map u8c ++ ys.map u8c) sp' e :: L1) := fun v' sp' ho => by
    rw [← List.map_append] at ho ⊢
    exact k v' sp' (by rw [List.length_append, hlen]; exact ho)
  rcases h with ⟨sp, hown, rfl⟩ | ⟨b0, fr, rfl, hne, rfl⟩
  · exact tl_app hs hy hown hsrc (by simpa using hlen) (u8c_one ys) (by decide) rfl (by omega) (by omega) hd hk
  · refine TL.perm (L' := [(b0, .cells ⟨l.map u8c⟩ e fr)] :: L1) ?_ hR.out
    have hsrc2 : SrcV x ρ ([(b0, Obj.cells ⟨l.map u8c⟩ e fr)] :: L1) a (ys.map u8c) := by
      rcases hsrc with h | ⟨b, off, e1, h⟩
      · exact .inl h
      · exact .inr ⟨b, off, e1, fun w hw => h w (hw.sub (by simp))⟩
    exact tl_app_full (sz := 1) (z := .int .u8 0) hs hy SrcV.lit (by simp) (by simpa using hne) hsrc2 (by simpa using hlen) (by simpa using hy0) (by decide) rfl (by omega) (by omega) hd (fun v' sp' ho => by
      refine fun a' w ha hw => hk v' sp' ho a' w ha (hw.sub ?_)
      simp only [List.flatten_cons]
      exact List.Sublist.append (List.Sublist.refl _) (List.sublist_append_right _ _))
/-! ## parts of arrays -/
theorem y_slice_arr {o : Operand} {og oh : Option Operand} {t len e sz b off : Nat} {lo' hi' : Nat} (ho : ev E o = some (.pointer (some ⟨b, off, none⟩))) [hS : TyArr x.P t len e] [hZ : TySz x.P e sz]
    (hg : match og with | some g => ∃ k, ev E g = some (.int k (lo' : Int)) | none => lo' = 0) (hh : match oh with | some h => ∃ k, ev E h = some (.int k (hi' : Int)) | none => hi' = len) (h1 : lo' ≤ hi') (h2 : hi' ≤ len) :
    Yl x (.slice t o og oh none) ty E ρ L (.slice (some (if len = lo' then ⟨b, off, none⟩ else ⟨b, off + lo' * sz, none⟩)) (hi' - lo') (len - lo')) := fun a' w _ _ _ _ ha hw => by
  obtain ⟨inf, g1, g2⟩ := hZ.out
  have hsz : (sizeOf e).run x.P w = .ok sz w := by simp [sizeOf, typeInfo, g1, g2]
  have hu : (underlying t).run x.P w = .ok (.array len e) w := by simp [underlying, hS.out]
  have hb1 : (Instr.sliceBounds false len len (og.map a'.eval) (oh.map a'.eval) none).run x.P w = .ok (lo', hi', len) w := by
    cases og with
    | none =>
      cases oh with
      | none => simp only at hg hh; subst hg; subst hh; simp [Instr.sliceBounds]
      | some h => simp only at hg hh; subst hg; obtain ⟨k, hk⟩ := hh; simp [Instr.sliceBounds, ha.eval hk, run_sliceBound, h2, Instr.sliceBound, asIntOf]
    | some g =>
      cases oh with
      | none => simp only at hg hh; subst hh; obtain ⟨k, hk⟩ := hg; simp [Instr.sliceBounds, ha.eval hk, Instr.sliceBound, asIntOf, h1]
      | some h => simp only at hg hh; obtain ⟨k, hk⟩ := hg; obtain ⟨k', hk'⟩ := hh; simp [Instr.sliceBounds, ha.eval hk, ha.eval hk', Instr.sliceBound, asIntOf, h1, h2]
  simp only [execOp, ha.eval ho, Instr.sliceAt, Sem.run_bind, hu, Result.andThen_ok, Instr.sureAddr, Sem.run_pure, Option.map_none, hb1, hsz, addr_add]
theorem y_slice_arr_all {o : Operand} {t len e sz b off : Nat} (ho : ev E o = some (.pointer (some ⟨b, off, none⟩))) [hS : TyArr x.P t len e] [hZ : TySz x.P e sz] :
    Yl x (.slice t o none none none) ty E ρ L (.slice (some ⟨b, off, none⟩) len len) := by
  have := y_slice_arr (x := x) (ρ := ρ) (L := L) (ty := ty) (og := none) (oh := none) (lo' := 0) (hi' := len) ho (hS := hS) (hZ := hZ) rfl rfl (Nat.zero_le _) (Nat.le_refl _)
  simpa using this
theorem y_slice_arr_l {o g : Operand} {t len e sz b off : Nat} {k : IntKind} {lo' : Int} (ho : ev E o = some (.pointer (some ⟨b, off, none⟩))) (hg : ev E g = some (.int k lo')) [hS : TyArr x.P t len e] [hZ : TySz x.P e sz] (h0 : 0 ≤ lo') (h1 : lo' < len) :
    Yl x (.slice t o (some g) none none) ty E ρ L (.slice (some ⟨b, off + lo'.toNat * sz, none⟩) (len - lo'.toNat) (len - lo'.toNat)) := by
  have := y_slice_arr (x := x) (ρ := ρ) (L := L) (ty := ty) (og := some g) (oh := none) (lo' := lo'.toNat) (hi' := len) ho (hS := hS) (hZ := hZ) ⟨k, by rw [Int.toNat_of_nonneg h0]; exact hg⟩ rfl (by omega) (Nat.le_refl _)
  rwa [if_neg (by omega)] at this
theorem y_slice_arr_h {o h : Operand} {t len e sz b off : Nat} {k : IntKind} {hi' : Int} (ho : ev E o = some (.pointer (some ⟨b, off, none⟩))) (hh : ev E h = some (.int k hi')) [hS : TyArr x.P t len e] [hZ : TySz x.P e sz] (h0 : 0 ≤ hi') (h1 : hi' ≤ len) :
    Yl x (.slice t o none (some h) none) ty E ρ L (.slice (some ⟨b, off, none⟩) hi'.toNat len) := by
  have := y_slice_arr (x := x) (ρ := ρ) (L := L) (ty := ty) (og := none) (oh := some h) (lo' := 0) (hi' := hi'.toNat) ho (hS := hS) (hZ := hZ) rfl ⟨k, by rw [Int.toNat_of_nonneg h0]; exact hh⟩ (by omega) (by omega)
  simpa using this
theorem y_slice_arr_lh {o g h : Operand} {t len e sz b off : Nat} {k k' : IntKind} {lo' hi' : Int} (ho : ev E o = some (.pointer (some ⟨b, off, none⟩))) (hg : ev E g = some (.int k lo')) (hh : ev E h = some (.int k' hi')) [hS : TyArr x.P t len e] [hZ : TySz x.P e sz] (h0 : 0 ≤ lo') (h1 : lo' ≤ hi') (h2 : hi' ≤ len) (h3 : lo' < len) :
    Yl x (.slice t o (some g) (some h) none) ty E ρ L (.slice (some ⟨b, off + lo'.toNat * sz, none⟩) (hi'.toNat - lo'.toNat) (len - lo'.toNat)) := by
  have := y_slice_arr (x := x) (ρ := ρ) (L := L) (ty := ty) (og := some g) (oh := some h) (lo' := lo'.toNat) (hi' := hi'.toNat) ho (hS := hS) (hZ := hZ) ⟨k, by rw [Int.toNat_of_nonneg h0]; exact hg⟩ ⟨k', by rw [Int.toNat_of_nonneg (by omega)]; exact hh⟩ (by omega) (by omega)
  rwa [if_neg (by omega)] at this
/-! ## parts with a capacity of their own -/
theorem y_slice_m {o g h m : Operand} {t e sz len cap : Nat} {a : Option Addr} {k k' k2 : IntKind} {lo' hi' mx : Int} (ho : ev E o = some (.slice a len cap)) (hg : ev E g = some (.int k' lo')) (hh : ev E h = some (.int k hi')) (hm : ev E m = some (.int k2 mx)) [hS : TySlice x.P t e] [hZ : TySz x.P e sz]
    (h0 : 0 ≤ lo') (h1 : lo' ≤ hi') (h2 : hi' ≤ mx) (h3 : mx ≤ cap) :
    Yl x (.slice t o (some g) (some h) (some m)) ty E ρ L (.slice (if mx.toNat = lo'.toNat then a else a.map (·.add (lo'.toNat * sz))) (hi'.toNat - lo'.toNat) (mx.toNat - lo'.toNat)) := fun a' w _ _ _ _ ha hw => by
  obtain ⟨inf, g1, g2⟩ := hZ.out
  have hel : x.P.elem t = e := by simp [Program.elem, hS.out]
  have ht : x.P.underlying t = some (.slice (x.P.elem t)) := by rw [hel]; exact hS.out
  have hsz : (sizeOf e).run x.P w = .ok sz w := by simp [sizeOf, typeInfo, g1, g2]
  have e1 : (mx.toNat : Int) = mx := Int.toNat_of_nonneg (by omega)
  have e2 : (hi'.toNat : Int) = hi' := Int.toNat_of_nonneg (by omega)
  have hu : (underlying t).run x.P w = .ok (.slice e) w := by simp [underlying, hS.out]
  have hb1 : (Instr.sliceBounds true len cap (some (.int k' lo')) (some (.int k hi')) (some (.int k2 mx))).run x.P w = .ok (lo'.toNat, hi'.toNat, mx.toNat) w := by
    simp [Instr.sliceBounds, Instr.sliceBound, asIntOf, h0, h1, h2, h3, e1, e2, show (0 : Int) ≤ hi' by omega, show (0 : Int) ≤ mx by omega]
  have key : (Instr.slice t (.slice a len cap) (some (.int k' lo')) (some (.int k hi')) (some (.int k2 mx))).run x.P w = .ok (.slice (if mx.toNat = lo'.toNat then a else a.map (·.add (lo'.toNat * sz))) (hi'.toNat - lo'.toNat) (mx.toNat - lo'.toNat)) w := by
    simp only [Instr.slice, Sem.run_bind, hu, Result.andThen_ok, hb1, hsz, Sem.run_pure]
  simp only [execOp, ha.eval ho, ha.eval hh, ha.eval hg, ha.eval hm, Option.map_some, Sem.run_bind, run_sliceAt_slice _ _ _ _ _ _ ht, key, Result.andThen_ok, Sem.run_pure]
theorem y_slice_hm {o h m : Operand} {t e sz len cap : Nat} {a : Option Addr} {k k2 : IntKind} {hi' mx : Int} (ho : ev E o = some (.slice a len cap)) (hh : ev E h = some (.int k hi')) (hm : ev E m = some (.int k2 mx)) [hS : TySlice x.P t e] [hZ : TySz x.P e sz]
    (h0 : 0 ≤ hi') (h2 : hi' ≤ mx) (h3 : mx ≤ cap) : Yl x (.slice t o none (some h) (some m)) ty E ρ L (.slice a hi'.toNat mx.toNat) := fun a' w _ _ _ _ ha hw => by
  obtain ⟨inf, g1, g2⟩ := hZ.out
  have hel : x.P.elem t = e := by simp [Program.elem, hS.out]
  have ht : x.P.underlying t = some (.slice (x.P.elem t)) := by rw [hel]; exact hS.out
  have hsz : (sizeOf e).run x.P w = .ok sz w := by simp [sizeOf, typeInfo, g1, g2]
  have e1 : (mx.toNat : Int) = mx := Int.toNat_of_nonneg (by omega)
  have hu : (underlying t).run x.P w = .ok (.slice e) w := by simp [underlying, hS.out]
  have hb1 : (Instr.sliceBounds true len cap none (some (.int k hi')) (some (.int k2 mx))).run x.P w = .ok (0, hi'.toNat, mx.toNat) w := by
    simp [Instr.sliceBounds, Instr.sliceBound, asIntOf, h0, h2, h3, e1, show (0 : Int) ≤ mx by omega]
  have ea : (if mx.toNat = 0 then a else a.map (·.add (0 * sz))) = a := by
    split
    · rfl
    · cases a with
      | none => rfl
      | some a => simp [Addr.add]
  have key : (Instr.slice t (.slice a len cap) none (some (.int k hi')) (some (.int k2 mx))).run x.P w = .ok (.slice a hi'.toNat mx.toNat) w := by
    simp only [Instr.slice, Sem.run_bind, hu, Result.andThen_ok, hb1, hsz, Sem.run_pure, ea, Nat.sub_zero]
  simp only [execOp, ha.eval ho, ha.eval hh, ha.eval hm, Option.map_some, Option.map_none, Sem.run_bind, run_sliceAt_slice _ _ _ _ _ _ ht, key, Result.andThen_ok, Sem.run_pure]
/-! ## bits -/
theorem y_shl8 {p q : Operand} {t t' : TypeId} {k k' : IntKind} {m : Int} (h1 : ev E p = some (.int k m)) (h2 : ev E q = some (.int k' 8)) (h : lo k ≤ m * 256 ∧ m * 256 ≤ hi k) (hk : 8 ≤ k.bits) : Yl x (.binOp .shl t p q t') ty E ρ L (.int k (m * 256)) := by
  have hc : min (Int.toNat 8) k.bits = 8 := by simp only [show Int.toNat 8 = 8 from rfl]; omega
  have := y_shl (x := x) (E := E) (ρ := ρ) (L := L) (ty := ty) (t := t) (t' := t') (c := 8) h1 h2 (by decide) hc
  rw [show (2 : Int) ^ 8 = 256 from rfl, wrap_id h] at this
  exact this
theorem y_or8 {p q : Operand} {t t' : TypeId} {m n : Int} (h1 : ev E p = some (.int .u64 m)) (h2 : ev E q = some (.int .u64 n)) (h : 0 ≤ m ∧ m % 256 = 0 ∧ 0 ≤ n ∧ n < 256 ∧ m + n ≤ 18446744073709551615) : Yl x (.binOp .or t p q t') ty E ρ L (.int .u64 (m + n)) := fun a w _ _ _ _ ha _ => by
  obtain ⟨hm0, hmd, hn0, hn1, hs⟩ := h
  have key : IntKind.u64.wrap ((BitVec.ofInt 64 m ||| BitVec.ofInt 64 n).toNat : Int) = m + n := by
    obtain ⟨a, rfl⟩ : ∃ a : Nat, m = (a * 2 ^ 8 : Nat) := ⟨(m / 256).toNat, by have : (2 : Nat) ^ 8 = 256 := rfl; omega⟩
    obtain ⟨b, rfl⟩ : ∃ b : Nat, n = b := ⟨n.toNat, by omega⟩
    have hb : b < 2 ^ 8 := by have : (2 : Nat) ^ 8 = 256 := rfl; omega
    have h8 : (2 : Nat) ^ 8 = 256 := rfl
    have h64 : (2 : Nat) ^ 64 = 18446744073709551616 := rfl
    rw [BitVec.toNat_or, BitVec.ofInt_natCast, BitVec.ofInt_natCast, BitVec.toNat_ofNat, BitVec.toNat_ofNat, Nat.mod_eq_of_lt (by omega), Nat.mod_eq_of_lt (by omega), Nat.mul_comm a, ← Nat.two_pow_add_eq_or_of_lt hb a]
    rw [show IntKind.u64.wrap ((2 ^ 8 * a + b : Nat) : Int) = ((2 ^ 8 * a + b : Nat) : Int) from wrap_id (by simp only [lo, hi]; omega)]
    omega
  have hb : (Op.intBits .or .u64 m n).run x.P w = .ok (.int .u64 (m + n)) w := by
    show (pure (.int .u64 (IntKind.u64.wrap ((BitVec.ofInt 64 m ||| BitVec.ofInt 64 n).toNat : Int))) : Sem Value).run x.P w = _
    rw [key]; rfl
  simp [execOp, ha.eval h1, ha.eval h2, eqGuard, binOp, hb]
/-- '[]byte("..")': the row gets a mark -/
theorem tl_mark {d t e b n c : Nat} {p : Operand} {C : List Value} {T : TypeId} {f : Obj → SH} (hp : ev E p = some (.slice (some ⟨b, 0, none⟩) n c)) [hS : TySlice x.P t e] [hE : TyInt x.P e .u8] [hU : Upd b L (.cells ⟨C⟩ T (0, 0)) f] (hd : Nat.blt d x.N = true)
    (k : TL x ops rest Q ((d, .slice (some ⟨b, 0, none⟩) n c) :: E) ρ (f (.cells ⟨C⟩ T (C.length, C.length + 1)))) :
    TL x ops (⟨some d, .convert t t p, ty, pos, af, none⟩ :: rest) Q E ρ L := fun a w ha hw => by
  refine wpListIn_intro rfl rfl ?_
  obtain ⟨hs, hb⟩ := hw.upd hU (.cells ⟨C⟩ T (C.length, C.length + 1))
  have hsh : w.shape? b = some (T, C.length) := by simp [World.shape?, hb]
  have hfr : w.freeze ⟨b, C.length, none⟩ 1 = putB w b (.cells ⟨C⟩ T (C.length, C.length + 1)) := by
    unfold World.freeze putB
    rw [if_neg (by decide)]
    congr 1
    obtain ⟨hlt, hv⟩ := Array.getElem?_eq_some_iff.1 hb
    apply Array.ext_getElem?
    intro i
    rw [Array.getElem?_modify]
    by_cases hi : b = i
    · subst hi; simp [hlt, hv]
    · rw [if_neg hi, Array.getElem?_setIfInBounds_ne hi]
  have hrun : (convert t t (.slice (some ⟨b, 0, none⟩) n c)).run x.P w = .ok (.slice (some ⟨b, 0, none⟩) n c) (putB w b (.cells ⟨C⟩ T (C.length, C.length + 1))) := by
    simp [convert, underlying, hS.out, hE.out, markStringish, hsh, hfr]
  have : (execOp a.eval ⟨some d, .convert t t p, ty, pos, af, none⟩).run x.P w = .ok (.value (.slice (some ⟨b, 0, none⟩) n c)) (putB w b (.cells ⟨C⟩ T (C.length, C.length + 1))) := by
    simp only [execOp, ha.eval hp, Sem.run_bind, hrun, Result.andThen_ok, Sem.run_pure]
  rw [this]
  exact k _ _ (ha.put (Nat.le_of_ble_eq_true hd) _) hs
end
end Go.Proofs.E

