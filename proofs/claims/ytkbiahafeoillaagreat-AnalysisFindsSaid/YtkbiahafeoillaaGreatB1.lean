/- Laws of analysis. Part 1 of 37. -/
import Derived.WalkKit
import Derived.OrdersIn
import Derived.RangeFuncLeaves
import Derived.RangeFuncIn
import Derived.KernelRfl
namespace Go.Proofs.E
set_option linter.unusedVariables false
set_option linter.unusedSimpArgs false
set_option linter.unusedSectionVars false
theorem kA {p : Prop} [Decidable p] : (decide p = true) = p := decide_eq_true_eq
theorem kB {p : Prop} [Decidable p] : (decide p = false) ↔ ¬p := decide_eq_false_iff_not
theorem kC (b : Bool) : (¬b = true) = (b = false) := Bool.not_eq_true b
theorem kD (b : Bool) : (¬b = false) = (b = true) := Bool.not_eq_false b
theorem kE {α : Type _} [BEq α] [LawfulBEq α] {a b : α} : a == b ↔ a = b := beq_iff_eq
theorem kF {α : Type _} [BEq α] [LawfulBEq α] {a b : α} : a != b ↔ a ≠ b := bne_iff_ne
theorem kG {α : Sort _} (a b : α) : (a ≠ b) = ¬(a = b) := ne_eq a b
theorem kH {a b : Bool} : ((!a) = b) ↔ (a = !b) := Bool.not_eq_eq_eq_not
theorem kI : (!true) = false := rfl
theorem kJ : (!false) = true := rfl
theorem kK {α : Type _} [BEq α] [LawfulBEq α] {a b : α} : (a == b) = false ↔ a ≠ b := beq_eq_false_iff_ne
theorem kL {α : Type _} [BEq α] [LawfulBEq α] {a b : α} : (a != b) = false ↔ a = b := bne_eq_false_iff_eq
theorem kM {α : Type _} (a : α) (as bs : List α) : (a :: as) ++ bs = a :: (as ++ bs) := rfl
theorem kN {α : Type _} (as : List α) : [] ++ as = as := rfl
theorem kO {α : Type _} {as bs : List α} : List.append as bs = as ++ bs := rfl
theorem kk : (∀ {p : Prop} [Decidable p], (decide p = true) = p) ∧ (∀ {p : Prop} [Decidable p], (decide p = false) ↔ ¬p) ∧ (∀ (b : Bool), (¬b = true) = (b = false)) ∧ (∀ (b : Bool), (¬b = false) = (b = true)) ∧
  (∀ {a b : Int}, (a == b) = true ↔ a = b) ∧ (∀ {a b : Int}, (a != b) = true ↔ a ≠ b) ∧ (∀ {a b : Bool}, (a == b) = true ↔ a = b) ∧ (∀ {a b : Bool}, (a != b) = true ↔ a ≠ b) ∧ (∀ {α : Type} (a b : α), (a ≠ b) = ¬(a = b)) ∧ (∀ {a b : Bool}, ((!a) = b) ↔ (a = !b)) ∧ ((!true) = false) ∧ ((!false) = true) ∧
  (∀ {a b : Int}, (a == b) = false ↔ a ≠ b) ∧ (∀ {a b : Int}, (a != b) = false ↔ a = b) ∧ (∀ {a b : Bool}, (a == b) = false ↔ a ≠ b) ∧ (∀ {a b : Bool}, (a != b) = false ↔ a = b) :=
 ⟨decide_eq_true_eq, decide_eq_false_iff_not, Bool.not_eq_true, Bool.not_eq_false, beq_iff_eq, bne_iff_ne, beq_iff_eq, bne_iff_ne, fun a b => ne_eq a b, Bool.not_eq_eq_eq_not, rfl, rfl, beq_eq_false_iff_ne, bne_eq_false_iff_eq, beq_eq_false_iff_ne, bne_eq_false_iff_eq⟩
end Go.Proofs.E
namespace Go.Proofs.E
open Go
set_option linter.unusedVariables false
set_option linter.unusedSimpArgs false
abbrev Hp := Nat → Option Obj
abbrev SH := List (List (Nat × Obj))
def Hp.le (ρ ρ' : Hp) : Prop := ∀ b o, ρ b = some o → ρ' b = some o
theorem Hp.le_refl (ρ : Hp) : ρ.le ρ := fun _ _ h => h
theorem Hp.le_trans {a b c : Hp} (h : a.le b) (k : b.le c) : a.le c := fun _ _ x => k _ _ (h _ _ x)
structure Sat (u : World) (ρ : Hp) (L : SH) (w : World) : Prop where
 os : w.os = u.os
 tape : w.tape = u.tape
 output : w.output = u.output
 nodup : (L.flatten.map Prod.fst).Nodup
 here : ∀ p ∈ L.flatten, w.heap[p.1]? = some p.2
 apart : ∀ p ∈ L.flatten, ρ p.1 = none
 imm : ∀ b o, ρ b = some o → w.heap[b]? = some o
theorem Sat.perm {u ρ w} {L L' : SH} (h : Sat u ρ L w) (hp : L.flatten.Perm L'.flatten) : Sat u ρ L' w :=
 ⟨h.os, h.tape, h.output, (hp.map _).nodup_iff.1 h.nodup, fun p hm => h.here p (hp.mem_iff.2 hm), fun p hm => h.apart p (hp.mem_iff.2 hm), h.imm⟩
theorem Sat.sub {u ρ w} {L L' : SH} (h : Sat u ρ L w) (hp : List.Sublist L'.flatten L.flatten) : Sat u ρ L' w :=
 ⟨h.os, h.tape, h.output, (hp.map _).nodup h.nodup, fun p hm => h.here p (hp.subset hm), fun p hm => h.apart p (hp.subset hm), h.imm⟩
theorem Sat.drew {u ρ w} {L : SH} (h : Sat u ρ L w) : Sat u ρ L { w with drawn := w.drawn + 1 } :=
 ⟨h.os, h.tape, h.output, h.nodup, h.here, h.apart, h.imm⟩
theorem Sat.new {u ρ w} {L : SH} (h : Sat u ρ L w) (o : Obj) : Sat u ρ ([(w.heap.size, o)] :: L) { w with heap := w.heap.push o } := by
 have hlt : ∀ p ∈ L.flatten, p.1 < w.heap.size := fun p hp => (Array.getElem?_eq_some_iff.1 (h.here p hp)).1
 have old : ∀ b x, w.heap[b]? = some x → (w.heap.push o)[b]? = some x := fun b x hx => by
  have := (Array.getElem?_eq_some_iff.1 hx).1
  rw [Array.getElem?_push, if_neg (by omega)]; exact hx
 refine ⟨h.os, h.tape, h.output, ?_, ?_, ?_, fun b x hx => old b x (h.imm b x hx)⟩
 ·simp only [List.flatten_cons, List.singleton_append, List.map_cons, List.nodup_cons]
  refine ⟨fun hm => ?_, h.nodup⟩
  obtain ⟨p, hp, he⟩ := List.mem_map.1 hm
  have := hlt p hp; omega
 ·intro p hp
  simp only [List.flatten_cons, List.singleton_append, List.mem_cons] at hp
  rcases hp with rfl | hp
  ·simp
  ·exact old _ _ (h.here p hp)
 ·intro p hp
  simp only [List.flatten_cons, List.singleton_append, List.mem_cons] at hp
  rcases hp with rfl | hp
  ·cases hx : ρ w.heap.size with
   | none => rfl
   | some x => have := (Array.getElem?_eq_some_iff.1 (h.imm _ _ hx)).1; omega
  ·exact h.apart p hp
def putB (w : World) (b : Nat) (o : Obj) : World := { w with heap := w.heap.setIfInBounds b o }
theorem Sat.put {u ρ w} {b : Nat} {o : Obj} {L : SH} (h : Sat u ρ ([(b, o)] :: L) w) (o' : Obj) : Sat u ρ ([(b, o')] :: L) (putB w b o') := by
 have hb := h.here (b, o) (by simp)
 have hlt := (Array.getElem?_eq_some_iff.1 hb).1
 have hnd := h.nodup
 simp only [List.flatten_cons, List.singleton_append, List.map_cons, List.nodup_cons] at hnd
 have other : ∀ c, c ≠ b → (w.heap.setIfInBounds b o')[c]? = w.heap[c]? := fun c hc => by
  rw [Array.getElem?_setIfInBounds_ne (by omega)]
 refine ⟨h.os, h.tape, h.output, by simpa using hnd, ?_, ?_, ?_⟩
 ·intro p hp
  simp only [List.flatten_cons, List.singleton_append, List.mem_cons] at hp
  rcases hp with rfl | hp
  ·simp [putB, hlt]
  ·have hne : p.1 ≠ b := fun e => hnd.1 (e ▸ List.mem_map_of_mem hp)
   simp only [putB]
   rw [other _ hne]
   exact h.here p (by simp [hp])
 ·intro p hp
  simp only [List.flatten_cons, List.singleton_append, List.mem_cons] at hp
  rcases hp with rfl | hp
  ·exact h.apart (b, o) (by simp)
  ·exact h.apart p (by simp [hp])
 ·intro c x hx
  have hne : c ≠ b := fun e => by
   have := h.apart (b, o) (by simp)
   simp only at this
   rw [e, this] at hx; cases hx
  simp only [putB]
  rw [other _ hne]
  exact h.imm c x hx
def Hp.with (ρ : Hp) (c : List (Nat × Obj)) : Hp := fun b => match c.find? (fun p => p.1 == b) with | some p => some p.2 | none => ρ b
theorem Sat.freeze {u ρ w} {c : List (Nat × Obj)} {L : SH} (h : Sat u ρ (c :: L) w) : Sat u (ρ.with c) L w ∧ ρ.le (ρ.with c) ∧ ∀ p ∈ c, (ρ.with c) p.1 = some p.2 := by
 have hnd := h.nodup
 simp only [List.flatten_cons, List.map_append, List.nodup_append] at hnd
 have inc : ∀ p ∈ c, (ρ.with c) p.1 = some p.2 := by
  intro p hp
  unfold Hp.with
  cases hf : c.find? (fun q => q.1 == p.1) with
  | none => simpa using List.find?_eq_none.1 hf p hp
  | some q =>
   have hq := List.mem_of_find?_eq_some hf
   have he : q.1 = p.1 := by simpa using List.find?_some hf
   have h1 := h.here q (by simp [hq])
   have h2 := h.here p (by simp [hp])
   rw [he, h2] at h1
   simp only [Option.some.injEq] at h1
   simp [h1]
 have outc : ∀ b, (∀ p ∈ c, p.1 ≠ b) → (ρ.with c) b = ρ b := by
  intro b hb
  unfold Hp.with
  rw [List.find?_eq_none.2 (fun p hp => by simpa using hb p hp)]
 refine ⟨⟨h.os, h.tape, h.output, hnd.2.1, fun p hp => h.here p (by simp [hp]), fun p hp => ?_, fun b o hb => ?_⟩, fun b o hb => ?_, inc⟩
 ·rw [outc p.1 (fun q hq e => hnd.2.2 q.1 (List.mem_map_of_mem hq) p.1 (List.mem_map_of_mem hp) e)]
  exact h.apart p (by simp [hp])
 ·unfold Hp.with at hb
  cases hf : c.find? (fun q => q.1 == b) with
  | none => rw [hf] at hb; exact h.imm b o hb
  | some q =>
   rw [hf] at hb
   simp only [Option.some.injEq] at hb
   have hq := List.mem_of_find?_eq_some hf
   have he : q.1 = b := by simpa using List.find?_some hf
   have := h.here q (by simp [hq])
   rw [he, hb] at this; exact this
 ·rw [outc b (fun p hp e => by have := h.apart p (by simp [hp]); rw [e, hb] at this; cases this)]
  exact hb
def lk : List (Nat × Value) → Nat → Option Value
 | [], _ => none
 | (k, v) :: r, t => match Nat.beq k t with | true => some v | false => lk r t
abbrev Env := List (Nat × Value)
def ev (E : Env) : Operand → Option Value
 | .tmp t => lk E t
 | .const v => some v
 | .global g => some (.pointer (some ⟨g, 0, none⟩))
 | .func f => some (.func (.func f) #[] #[])
def evs (E : Env) : List Operand → Option (List Value)
 | [] => some []
 | x :: r => match ev E x, evs E r with | some v, some vs => some (v :: vs) | _, _ => none
structure Ok (D : List Deferred) (N : Nat) (E : Env) (a : Act) : Prop where
 defers : a.defers = D
 size : a.tmps.size = N
 get : ∀ t v, lk E t = some v → a.tmps[t]? = some v
theorem Ok.eval {D N E a} (h : Ok D N E a) {x : Operand} {v : Value} (hx : ev E x = some v) : a.eval x = v := by
 cases x with
 | tmp t => simp only [ev] at hx; simp [Act.eval, h.get t v hx]
 | const c => simp only [ev, Option.some.injEq] at hx; exact hx
 | global g => simp only [ev, Option.some.injEq] at hx; exact hx
 | func f => simp only [ev, Option.some.injEq] at hx; exact hx
theorem Ok.evals {D N E a} (h : Ok D N E a) : ∀ {xs : List Operand} {vs : List Value}, evs E xs = some vs → xs.map a.eval = vs
 | [], vs, hx => by simp only [evs, Option.some.injEq] at hx; simp [← hx]
 | x :: r, vs, hx => by
  simp only [evs] at hx
  cases h1 : ev E x with
  | none => simp [h1] at hx
  | some v =>
   cases h2 : evs E r with
   | none => simp [h1, h2] at hx
   | some ws =>
    simp only [h1, h2, Option.some.injEq] at hx
    simp [← hx, h.eval h1, h.evals h2]
theorem Ok.put {D N E a} (h : Ok D N E a) {d : Nat} (hd : d < N) (v : Value) : Ok D N ((d, v) :: E) (a.put (some d) v) := by
 refine ⟨by simp [Act.put, h.defers], by simp [Act.put, h.size], fun t x hx => ?_⟩
 simp only [lk] at hx
 simp only [Act.put]
 cases hb : Nat.beq d t with
 | true =>
  rw [hb] at hx
  simp only [Option.some.injEq] at hx
  have he : d = t := Nat.eq_of_beq_eq_true hb
  subst he; subst hx
  simp [h.size, hd]
 | false =>
  rw [hb] at hx
  have hne : d ≠ t := Nat.ne_of_beq_eq_false hb
  rw [Array.getElem?_setIfInBounds_ne hne]
  exact h.get t x hx
theorem Ok.put_none {D N E a} (h : Ok D N E a) (v : Value) : Ok D N E (a.put none v) := h
def EnvLe (E' E : Env) : Prop := ∀ t v, lk E' t = some v → lk E t = some v
theorem EnvLe.refl (E : Env) : EnvLe E E := fun _ _ h => h
theorem EnvLe.nil (E : Env) : EnvLe [] E := fun _ _ h => by cases h
theorem EnvLe.cons {E' E : Env} {t : Nat} {v : Value} (h : lk E t = some v) (k : EnvLe E' E) : EnvLe ((t, v) :: E') E := by
 intro s x hx
 simp only [lk] at hx
 cases hb : Nat.beq t s with
 | true =>
  rw [hb] at hx
  simp only [Option.some.injEq] at hx
  have he : t = s := Nat.eq_of_beq_eq_true hb
  subst he; subst hx; exact h
 | false => rw [hb] at hx; exact k s x hx
theorem Ok.le {D N E E' a} (h : Ok D N E a) (k : EnvLe E' E) : Ok D N E' a := ⟨h.defers, h.size, fun t v hv => h.get t v (k t v hv)⟩
def Fw (ro : Option Nat) : Fence := { Fence.wide with round := ro }
structure Cx where
 ro : Option Nat
 P : Program
 u : World
 D : List Deferred
 N : Nat
def TC (x : Cx) (c : Code) (Q : Exit → Act → World → Prop) (E : Env) (ρ : Hp) (L : SH) : Prop :=
 ∀ a w, Ok x.D x.N E a → Sat x.u ρ L w → c.wpIn (Fw x.ro) 0 x.P Q a w
def TL (x : Cx) (ops : Array Oper) (l : List Oper) (Q : Exit → Act → World → Prop) (E : Env) (ρ : Hp) (L : SH) : Prop :=
 ∀ a w, Ok x.D x.N E a → Sat x.u ρ L w → wpListIn (Fw x.ro) 0 x.P ops Q l a w
def TE (x : Cx) (e : Exit) (Q : Exit → Act → World → Prop) (E : Env) (ρ : Hp) (L : SH) : Prop :=
 ∀ a w, Ok x.D x.N E a → Sat x.u ρ L w → Q e a w
section
variable {x : Cx} {Q : Exit → Act → World → Prop} {E : Env} {ρ : Hp} {L : SH}
def KC (x : Cx) (y : Code) (Q : Exit → Act → World → Prop) : Act → World → Prop := fun a w => y.wpIn (Fw x.ro) 0 x.P Q a w
theorem tc_seq {y z : Code} (h : TC x y (Exit.then (KC x z Q) Q) E ρ L) : TC x (.seq y z) Q E ρ L := fun a w ha hw => wpIn_seq (h a w ha hw)
theorem te_seq {z : Code} (h : TC x z Q E ρ L) : TE x .normal (Exit.then (KC x z Q) Q) E ρ L := fun a w ha hw => h a w ha hw
theorem te_then_ret {K} (h : TE x .ret Q E ρ L) : TE x .ret (Exit.then K Q) E ρ L := h
theorem te_then_exit {K id} (h : TE x (.exit id) Q E ρ L) : TE x (.exit id) (Exit.then K Q) E ρ L := h
theorem tc_block {id : Nat} {c : Code} (h : TC x c (Exit.inBlock id Q) E ρ L) : TC x (.block id c) Q E ρ L := fun a w ha hw => wpIn_block (h a w ha hw)
theorem te_block_normal {id} (h : TE x .normal Q E ρ L) : TE x .normal (Exit.inBlock id Q) E ρ L := h
theorem te_block_ret {id} (h : TE x .ret Q E ρ L) : TE x .ret (Exit.inBlock id Q) E ρ L := h
theorem te_block_hit {id} (h : TE x .normal Q E ρ L) : TE x (.exit id) (Exit.inBlock id Q) E ρ L := fun a w ha hw => by
 simp only [Exit.inBlock, if_true]; exact h a w ha hw
theorem te_block_miss {id id' : Nat} (hne : Nat.beq id' id = false) (h : TE x (.exit id') Q E ρ L) : TE x (.exit id') (Exit.inBlock id Q) E ρ L := fun a w ha hw => by
 simp only [Exit.inBlock, if_neg (Nat.ne_of_beq_eq_false hne)]; exact h a w ha hw
theorem tc_ret (h : TE x .ret Q E ρ L) : TC x .ret Q E ρ L := fun a w ha hw => wpIn_ret (h a w ha hw)
theorem tc_skip (h : TE x .normal Q E ρ L) : TC x .skip Q E ρ L := fun a w ha hw => wpIn_skip (h a w ha hw)
theorem tc_label {l} (h : TE x .normal Q E ρ L) : TC x (.label l) Q E ρ L := fun a w ha hw => wpIn_label (h a w ha hw)
theorem tc_exit {id} (h : TE x (.exit id) Q E ρ L) : TC x (.exit id) Q E ρ L := fun a w ha hw => wpIn_exit (h a w ha hw)
theorem tc_cond_t {c : Operand} {y z : Code} (hc : ev E c = some (.bool true)) (h : TC x y Q E ρ L) : TC x (.cond c y z) Q E ρ L :=
 fun a w ha hw => wpIn_cond_true (ha.eval hc) (h a w ha hw)
theorem tc_cond_f {c : Operand} {y z : Code} (hc : ev E c = some (.bool false)) (h : TC x z Q E ρ L) : TC x (.cond c y z) Q E ρ L :=
 fun a w ha hw => wpIn_cond_false (ha.eval hc) (h a w ha hw)
theorem Yb {c : Operand} {y z : Code} {b : Bool} (hc : ev E c = some (.bool b)) (h1 : b = true → TC x y Q E ρ L) (h2 : b = false → TC x z Q E ρ L) : TC x (.cond c y z) Q E ρ L :=
 fun a w ha hw => wpIn_cond_split (ha.eval hc) (fun hb => h1 hb a w ha hw) (fun hb => h2 hb a w ha hw)
theorem tc_region {id : Nat} {l : List Oper} (h : TL x l.toArray l Q E ρ L) : TC x (.region id l.toArray false) Q E ρ L :=
 fun a w ha hw => wpIn_region_lit (h a w ha hw)
theorem Zb {ops} (h : TE x .normal Q E ρ L) : TL x ops [] Q E ρ L := fun a w ha hw => wpListIn_nil (h a w ha hw)
theorem TC.perm {c : Code} {L' : SH} (h : TC x c Q E ρ L') (hL : L.flatten.Perm L'.flatten) : TC x c Q E ρ L :=
 fun a w ha hw => h a w ha (hw.perm hL)
theorem TL.perm {ops l} {L' : SH} (h : TL x ops l Q E ρ L') (hL : L.flatten.Perm L'.flatten) : TL x ops l Q E ρ L :=
 fun a w ha hw => h a w ha (hw.perm hL)
theorem wpIn_loop_ghost {F : Fence} {n : Nat} {P : Program} {Y : Type} {c : Code} (I : Y → Act → World → Prop) (μ : Y → Nat) {Q : Exit → Act → World → Prop} {a : Act} {w : World} (y0 : Y) (h₀ : I y0 a w)
  (round : ∀ y a w, I y a w → c.wpIn F n P (Exit.then (fun a' w' => ∃ y', I y' a' w' ∧ μ y' < μ y) Q) a w) : (Code.loop c).wpIn F n P Q a w := by
 intro b k cs hro hb hr
 have key : ∀ j y a w, μ y = j → I y a w →
   ∃ e a' w', Q e a' w' ∧ ArrivesIn (Machine.fenced P F) P (lone (b.atR a (.code c :: .inLoop c :: k)) cs w) b k cs e a' w' := by
  intro j
  induction j using Nat.strongRecOn with
  | _ j ih =>
   intro y a w hn hI
   obtain ⟨e, a₁, w₁, hq, harr⟩ := round y a w hI b (.inLoop c :: k) cs hro hb hr
   cases e with
   | normal =>
    obtain ⟨y₁, hI₁, hlt⟩ := hq
    obtain ⟨e₂, a₂, w₂, hq₂, harr₂⟩ := ih (μ y₁) (hn ▸ hlt) y₁ a₁ w₁ rfl hI₁
    exact ⟨e₂, a₂, w₂, hq₂, .of_steps (StepsIn.trans harr (.one (fenced_calm hb hr rfl) stepR_inLoop)) harr₂⟩
   | exit id => exact ⟨_, a₁, w₁, hq, .pass (x := .inLoop c) rfl (fun _ _ => .inl (by simp)) harr⟩
   | goto l => exact ⟨_, a₁, w₁, hq, .pass (x := .inLoop c) rfl (fun _ _ => .inl (by simp)) harr⟩
   | ret => exact ⟨_, a₁, w₁, hq, .pass (x := .inLoop c) rfl (fun _ _ => .inl (by simp)) harr⟩
   | panic ch => exact ⟨_, a₁, w₁, hq, .pass (x := .inLoop c) rfl (fun _ _ => .inl (by simp)) harr⟩
   | outgrown => exact ⟨_, a₁, w₁, hq, .pass (x := .inLoop c) rfl (fun _ _ => .inl (by simp)) harr⟩
 obtain ⟨e, a', w', hq, harr⟩ := key _ y0 a w rfl h₀
 exact ⟨e, a', w', hq, .of_steps (.one (fenced_calm hb hr rfl) stepR_loop) harr⟩
structure LS where
 E : Env
 ρ : Hp
 L : SH
def KR (x : Cx) {Y : Type} (S : Y → LS) (I : Y → Prop) (μ : Y → Nat) (y : Y) : Act → World → Prop :=
 fun a w => ∃ y', (Ok x.D x.N (S y').E a ∧ Sat x.u (S y').ρ (S y').L w ∧ I y') ∧ μ y' < μ y
theorem tc_loop {Y : Type} {c : Code} (S : Y → LS) (I : Y → Prop) (μ : Y → Nat) (y0 : Y) (h0 : I y0)
  (hE : EnvLe (S y0).E E) (hρ : (S y0).ρ = ρ) (hL : L.flatten.Perm (S y0).L.flatten)
  (round : ∀ y, I y → TC x c (Exit.then (KR x S I μ y) Q) (S y).E (S y).ρ (S y).L) :
  TC x (.loop c) Q E ρ L := by
 intro a w ha hw
 refine wpIn_loop_ghost (fun y a w => Ok x.D x.N (S y).E a ∧ Sat x.u (S y).ρ (S y).L w ∧ I y) μ y0 ⟨ha.le hE, by rw [hρ]; exact hw.perm hL, h0⟩ ?_
 rintro y a w ⟨h1, h2, h3⟩
 exact round y h3 a w h1 h2
end
class TyS (P : Program) (t : TypeId) : Prop where
 out : ∃ d i, P.underlying t = some d ∧ (match d with | .struct _ | .array _ _ => true | _ => false) = false ∧ P.info? t = some i ∧ i.size = 1
class TyA (P : Program) (t : TypeId) (n : outParam Nat) : Prop where
 out : ∃ d i, P.underlying t = some d ∧ (match d with | .struct _ | .array _ _ => true | _ => false) = true ∧ P.info? t = some i ∧ i.size = n
class ZJ (P : Program) (t : TypeId) (n : outParam Nat) : Prop where
 out : ∃ i, P.info? t = some i ∧ i.size = n
class Zu (P : Program) (t : TypeId) (n : outParam Nat) : Prop where
 out : ∃ i, P.info? t = some i ∧ i.bytes = n
class Zw (P : Program) (t : TypeId) (z : outParam Value) : Prop where
 out : ∃ i, P.info? t = some i ∧ i.zero = some z
class ZT (P : Program) (t : TypeId) (e : outParam TypeId) : Prop where
 out : P.underlying t = some (.slice e)
class TyArr (P : Program) (t : TypeId) (n : outParam Nat) (e : outParam TypeId) : Prop where
 out : P.underlying t = some (.array n e)
class TyMap (P : Program) (t : TypeId) (k e : outParam TypeId) : Prop where
 out : P.underlying t = some (.map k e)
class YV (P : Program) (t : TypeId) (k : outParam IntKind) : Prop where
 out : P.underlying t = some (.int k)
class TyPtr (P : Program) (t : TypeId) (e : outParam TypeId) : Prop where
 out : P.underlying t = some (.pointer e)
class TyStr (P : Program) (t : TypeId) : Prop where
 out : P.underlying t = some .string
class Yy (P : Program) (t : TypeId) : Prop where
 out : ∃ a b c, P.underlying t = some (.func a b c)
class Ys (P : Program) (s : TypeId) (f : Nat) (off : outParam Nat) (ft : outParam TypeId) : Prop where
 out : ∃ fs fd i, P.underlying s = some (.struct fs) ∧ fs[f]? = some fd ∧ fd.offset = off ∧ fd.type = ft ∧ P.info? ft = some i ∧ i.size ≠ 0
class Find (b : Nat) (L : SH) (o : outParam Obj) : Prop where
 out : (b, o) ∈ L.flatten
instance (priority := 1100) Find.here {b : Nat} {L : SH} {o : Obj} : Find b ([(b, o)] :: L) o := ⟨by simp⟩
instance (priority := 900) Find.there {b : Nat} {c : List (Nat × Obj)} {L : SH} {o : Obj} [h : Find b L o] : Find b (c :: L) o := ⟨by
 simp only [List.flatten_cons, List.mem_append]; exact .inr h.out⟩
class Upd (b : Nat) (L : SH) (o : outParam Obj) (f : outParam (Obj → SH)) : Prop where
 out : ∃ pre post : SH, L = pre ++ [(b, o)] :: post ∧ ∀ o', f o' = pre ++ [(b, o')] :: post
instance (priority := 1100) Upd.here {b : Nat} {L : SH} {o : Obj} : Upd b ([(b, o)] :: L) o (fun o' => [(b, o')] :: L) := ⟨[], L, rfl, fun _ => rfl⟩
instance (priority := 900) Upd.there {b : Nat} {c : List (Nat × Obj)} {L : SH} {o : Obj} {f : Obj → SH} [h : Upd b L o f] : Upd b (c :: L) o (fun o' => c :: f o') := by
 obtain ⟨pre, post, h1, h2⟩ := h.out
 exact ⟨c :: pre, post, by simp [h1], fun o' => by simp [h2]⟩
class Rem (c : List (Nat × Obj)) (L : SH) (L' : outParam SH) : Prop where
 out : L.flatten.Perm (c ++ L'.flatten)
instance (priority := 1100) Rem.here {c : List (Nat × Obj)} {L : SH} : Rem c (c :: L) L := ⟨by simp⟩
instance (priority := 900) Rem.there {c d : List (Nat × Obj)} {L L' : SH} [h : Rem c L L'] : Rem c (d :: L) (d :: L') := ⟨by
 simp only [List.flatten_cons]
 refine (List.Perm.append_left d h.out).trans ?_
 rw [← List.append_assoc, ← List.append_assoc]
 exact List.Perm.append_right _ List.perm_append_comm⟩
class Xo (L : SH) (Lf : SH) (R : outParam SH) : Prop where
 out : L.flatten.Perm (Lf ++ R).flatten
instance Xo.nil {L : SH} : Xo L [] L := ⟨by simp⟩
instance Xo.cons {L L1 R Lf : SH} {c : List (Nat × Obj)} [h : Rem c L L1] [k : Xo L1 Lf R] : Xo L (c :: Lf) R := ⟨by
 refine h.out.trans ?_
 simp only [List.cons_append, List.flatten_cons]
 exact List.Perm.append_left c k.out⟩
theorem take_app' {L R : SH} : Xo (L ++ R) L R := ⟨List.Perm.refl _⟩
theorem rem_app' {c : List (Nat × Obj)} {X L L' : SH} (h : Rem c L L') : Rem c (X ++ L) (X ++ L') := ⟨by
 simp only [List.flatten_append]
 refine (List.Perm.append_left _ h.out).trans ?_
 rw [← List.append_assoc, ← List.append_assoc]
 exact List.Perm.append_right _ List.perm_append_comm⟩
theorem take_all' {R : SH} : Xo R R [] := ⟨by simp⟩
theorem take_skip' {L R G : SH} {c : List (Nat × Obj)} (h : Xo L R G) : Xo (c :: L) R (c :: G) := ⟨by
 simp only [List.flatten_cons, List.flatten_append]
 refine (List.Perm.append_left c h.out).trans ?_
 simp only [List.flatten_append]
 rw [← List.append_assoc, ← List.append_assoc]
 exact List.Perm.append_right _ List.perm_append_comm⟩
theorem rem_nil' {L : SH} : Rem [] L L := ⟨by simp⟩
theorem take_nil' {L : SH} : Xo L [] L := Xo.nil
theorem take_cons' {L L1 R Lf : SH} {c : List (Nat × Obj)} (h : Rem c L L1) (k : Xo L1 Lf R) : Xo L (c :: Lf) R := Xo.cons
theorem Yj {c : List (Nat × Obj)} {L : SH} : Rem c (c :: L) L := Rem.here
theorem Yr {c d : List (Nat × Obj)} {L L' : SH} (h : Rem c L L') : Rem c (d :: L) (d :: L') := Rem.there
theorem flatten_mid {pre post : SH} {c : List (Nat × Obj)} : (pre ++ c :: post).flatten.Perm (c :: (pre ++ post)).flatten := by
 simp only [List.flatten_append, List.flatten_cons]
 rw [← List.append_assoc, ← List.append_assoc]
 exact List.Perm.append_right _ List.perm_append_comm
theorem Sat.upd {u ρ w} {b : Nat} {o : Obj} {L : SH} {f : Obj → SH} (h : Sat u ρ L w) (k : Upd b L o f) (o' : Obj) : Sat u ρ (f o') (putB w b o') ∧ w.heap[b]? = some o := by
 obtain ⟨pre, post, rfl, h2⟩ := k.out
 have h' := h.perm flatten_mid
 refine ⟨?_, h'.here (b, o) (by simp)⟩
 rw [h2]
 exact (h'.put o').perm flatten_mid.symm
theorem Sat.find {u ρ w} {b : Nat} {o : Obj} {L : SH} (h : Sat u ρ L w) (k : Find b L o) : w.heap[b]? = some o := h.here _ k.out
def Yl (x : Cx) (op : Op) (ty : TypeId) (E : Env) (ρ : Hp) (L : SH) (v : Value) : Prop :=
 ∀ a w dst pos after guard, Ok x.D x.N E a → Sat x.u ρ L w → (execOp a.eval ⟨dst, op, ty, pos, after, guard⟩).run x.P w = .ok (.value v) w
def XW : Op → Bool
 | .defer _ => false
 | _ => true
theorem semAt_nd {ro : Option Nat} {r : Operand → Value} {o : Oper} (h : XW o.op = true) : o.semAt ro r = execOp r o :=
 Oper.semAt_eq ro r o fun c hc => by rw [hc] at h; cases h
section
variable {x : Cx} {Q : Exit → Act → World → Prop} {E : Env} {ρ : Hp} {L : SH} {ops : Array Oper} {rest : List Oper} {ty : TypeId} {pos : String} {af : Array Edge}
theorem wpIn_intro {o : Oper} {a : Act} {w : World} {K : Act → World → Prop} (hn : XW o.op = true) (h : o.uponIn (Fw x.ro) 0 x.P a K Q ((execOp a.eval o).run x.P w)) : o.wpIn (Fw x.ro) 0 x.P a w K Q :=
 ⟨fun _ _ => trivial, by rw [semAt_nd hn]; exact h⟩
theorem Yg {o : Oper} {a : Act} {w : World} (hg : o.guard = none) (hn : XW o.op = true)
  (h : o.uponIn (Fw x.ro) 0 x.P a (wpListIn (Fw x.ro) 0 x.P ops Q rest) Q ((execOp a.eval o).run x.P w)) : wpListIn (Fw x.ro) 0 x.P ops Q (o :: rest) a w := by
 simp only [wpListIn, Region.wanted, hg, if_true]
 exact wpIn_intro hn h
theorem Zk {d : Nat} {op : Op} {v : Value} (hy : Yl x op ty E ρ L v) (hd : Nat.blt d x.N = true) (hn : XW op = true)
  (k : TL x ops rest Q ((d, v) :: E) ρ L) : TL x ops (⟨some d, op, ty, pos, af, none⟩ :: rest) Q E ρ L := fun a w ha hw => by
 refine Yg rfl hn ?_
 rw [hy a w _ _ _ _ ha hw]
 exact k _ _ (ha.put (Nat.le_of_ble_eq_true hd) v) hw
theorem tl_want {d : Option Nat} {op : Op} {j t : Nat} {b : Bool} (hj : (ops[j]?).bind (·.dst) = some t) (he : lk E t = some (.bool b))
  (k : TL x ops (⟨d, op, ty, pos, af, none⟩ :: rest) Q E ρ L) : TL x ops (⟨d, op, ty, pos, af, some (j, b)⟩ :: rest) Q E ρ L := fun a w ha hw => by
 have hy : yielded ops a.tmps j = some b := by
  unfold yielded
  rw [hj]
  simp [ha.get t _ he]
 have h := k a w ha hw
 simp only [wpListIn, Region.wanted, hy, if_true] at h
 simp only [wpListIn, Region.wanted, hy, beq_self_eq_true, if_true]
 exact h
theorem tl_skip {d : Nat} {op : Op} {j t : Nat} {b c : Bool} (hj : (ops[j]?).bind (·.dst) = some t) (he : lk E t = some (.bool b)) (hbc : (b == c) = false) (hd : Nat.blt d x.N = true)
  (k : TL x ops rest Q ((d, undef) :: E) ρ L) : TL x ops (⟨some d, op, ty, pos, af, some (j, c)⟩ :: rest) Q E ρ L := fun a w ha hw => by
 have hy : yielded ops a.tmps j = some b := by
  unfold yielded
  rw [hj]
  simp [ha.get t _ he]
 have hne : ¬ (some b == some c) = true := by cases b <;> cases c <;> simp_all
 simp only [wpListIn, Region.wanted, hy, hne]
 exact ⟨fun _ _ => trivial, k _ _ (ha.put (Nat.le_of_ble_eq_true hd) undef) hw⟩
theorem tl_skip0 {op : Op} {j t : Nat} {b c : Bool} (hj : (ops[j]?).bind (·.dst) = some t) (he : lk E t = some (.bool b)) (hbc : (b == c) = false)
  (k : TL x ops rest Q E ρ L) : TL x ops (⟨none, op, ty, pos, af, some (j, c)⟩ :: rest) Q E ρ L := fun a w ha hw => by
 have hy : yielded ops a.tmps j = some b := by
  unfold yielded
  rw [hj]
  simp [ha.get t _ he]
 have hne : ¬ (some b == some c) = true := by cases b <;> cases c <;> simp_all
 simp only [wpListIn, Region.wanted, hy, hne]
 exact ⟨fun _ _ => trivial, k a w ha hw⟩
theorem ZR {d : Option Nat} {op : Op} {j t : Nat} {b c : Bool} (hj : (ops[j]?).bind (·.dst) = some t) (he : lk E t = some (.bool b))
  (h1 : b = c → TL x ops (⟨d, op, ty, pos, af, some (j, c)⟩ :: rest) Q ((t, .bool c) :: E) ρ L)
  (h2 : b = !c → TL x ops (⟨d, op, ty, pos, af, some (j, c)⟩ :: rest) Q ((t, .bool !c) :: E) ρ L) :
  TL x ops (⟨d, op, ty, pos, af, some (j, c)⟩ :: rest) Q E ρ L := fun a w ha hw => by
 have key : ∀ e : Bool, b = e → Ok x.D x.N ((t, .bool e) :: E) a := fun e hbe => ha.le (EnvLe.cons (by rw [he, hbe]) (EnvLe.refl E))
 by_cases hb : b = c
 ·exact h1 hb a w (key c hb) hw
 ·have hb' : b = !c := by cases b <;> cases c <;> simp_all
  exact h2 hb' a w (key _ hb') hw
theorem y_move {o : Operand} {v : Value} (h : ev E o = some v) : Yl x (.move o) ty E ρ L v := fun a w _ _ _ _ ha _ => by
 simp [execOp, ha.eval h]
theorem y_assign {o : Operand} {v : Value} (h : ev E o = some v) : Yl x (.assign o) ty E ρ L v := fun a w _ _ _ _ ha _ => by
 simp [execOp, ha.eval h]
theorem y_pick_t {c p q : Operand} {v : Value} (hc : ev E c = some (.bool true)) (h : ev E p = some v) : Yl x (.pick c p q) ty E ρ L v := fun a w _ _ _ _ ha _ => by
 simp [execOp, ha.eval h, ha.eval hc, asBool]
theorem y_pick_f {c p q : Operand} {v : Value} (hc : ev E c = some (.bool false)) (h : ev E q = some v) : Yl x (.pick c p q) ty E ρ L v := fun a w _ _ _ _ ha _ => by
 simp [execOp, ha.eval h, ha.eval hc, asBool]
theorem y_nilCheck {o : Operand} {p : Addr} (h : ev E o = some (.pointer (some p))) : Yl x (.nilCheck o) ty E ρ L (.pointer (some p)) := fun a w _ _ _ _ ha _ => by
 simp [execOp, ha.eval h]
theorem y_nilCheck_f {o : Operand} {f : FuncId} {p q : Array Value} (h : ev E o = some (.func (.func f) p q)) : Yl x (.nilCheck o) ty E ρ L (.func (.func f) p q) := fun a w _ _ _ _ ha _ => by
 simp [execOp, ha.eval h]
theorem y_nilCheck_y {o : Operand} {l : Nat} {p q : Array Value} (h : ev E o = some (.func (.yield l) p q)) : Yl x (.nilCheck o) ty E ρ L (.func (.yield l) p q) := fun a w _ _ _ _ ha _ => by
 simp [execOp, ha.eval h]
theorem y_extract {o : Operand} {i : Nat} {vs : List Value} {v : Value} (h : ev E o = some (.tuple ⟨vs⟩)) (hv : vs[i]? = some v) : Yl x (.extract o i) ty E ρ L v := fun a w _ _ _ _ ha _ => by
 simp [execOp, ha.eval h, Instr.extract, hv]
theorem y_makeFunc {fn : Fn} {p q : List Operand} {vs us : List Value} (h : evs E p = some vs) (k : evs E q = some us) :
  Yl x (.makeFunc fn ⟨p⟩ ⟨q⟩) ty E ρ L (.func fn ⟨vs⟩ ⟨us⟩) := fun a w _ _ _ _ ha _ => by
 have e1 : Array.map a.eval (⟨p⟩ : Array Operand) = ⟨vs⟩ := by rw [List.map_toArray, ha.evals h]
 have e2 : Array.map a.eval (⟨q⟩ : Array Operand) = ⟨us⟩ := by rw [List.map_toArray, ha.evals k]
 simp [execOp, Instr.makeFunc, e1, e2]
theorem y_not {o : Operand} {t : TypeId} {b : Bool} (h : ev E o = some (.bool b)) : Yl x (.unOp .not t o) ty E ρ L (.bool (!b)) := fun a w _ _ _ _ ha _ => by
 simp [execOp, ha.eval h, Op.unary]
theorem Ws {w : World} {P : Program} {b : Nat} {l : List Value} {T : TypeId} {fr : Nat × Nat} {t n off : Nat} (hA : TyA P t n) (hb : w.heap[b]? = some (.cells ⟨l⟩ T fr)) (hn : off + n ≤ l.length) :
  (Instr.loadAt t (.pointer (some ⟨b, off, none⟩))).run P w = .ok (.agg ⟨(l.drop off).take n⟩) w := by
 obtain ⟨d, i, h1, h2, h3, h4⟩ := hA.out
 have hl := run_loadCells_list (P := P) w ⟨b, off, none⟩ ((l.drop off).take n) (fun j v hj => by
  have hj' : j < n := by have := (List.getElem?_eq_some_iff.1 hj).1; simp at this; omega
  have e : (⟨b, off, none⟩ : Addr).add j = ⟨b, off + j, none⟩ := by unfold Addr.add; split <;> simp_all
  rw [e]
  simp only [World.cell?, hb, Option.isSome_none, Bool.false_eq_true, if_false]
  rw [List.getElem?_take_of_lt hj', List.getElem?_drop] at hj
  simpa using hj)
 have hlen : ((l.drop off).take n).length = n := by simp; omega
 rw [hlen] at hl
 have ha : (isAgg t).run P w = .ok true w := by
  simp only [isAgg, underlying, Sem.run_bind, run_program, Result.andThen_ok, h1, Sem.run_pure]
  cases d <;> simp_all
 simp only [Instr.loadAt, Instr.sureAddr, loadVar, Sem.run_bind, Sem.run_pure, Result.andThen_ok, ha, if_true, sizeOf, typeInfo, run_program, h3, h4, hl]
theorem run_loadAt_cell {w : World} {P : Program} {b : Nat} {C : Array Value} {T : TypeId} {fr : Nat × Nat} {t off : Nat} {v : Value} (hA : TyS P t) (hb : w.heap[b]? = some (.cells C T fr)) (hn : C[off]? = some v) :
  (Instr.loadAt t (.pointer (some ⟨b, off, none⟩))).run P w = .ok v w := by
 obtain ⟨d, i, h1, h2, h3, h4⟩ := hA.out
 have ha : (isAgg t).run P w = .ok false w := by
  simp only [isAgg, underlying, Sem.run_bind, run_program, Result.andThen_ok, h1, Sem.run_pure]
  cases d <;> simp_all
 have hc : w.cell? ⟨b, off, none⟩ = some v := by simp [World.cell?, hb, hn]
 simp [Instr.loadAt, Instr.sureAddr, loadVar, ha, hc]
theorem y_load_s {o : Operand} {t b off : Nat} {C : List Value} {T : TypeId} {fr : Nat × Nat} {v : Value} (h : ev E o = some (.pointer (some ⟨b, off, none⟩))) [hA : TyS x.P t] [hF : Find b L (.cells ⟨C⟩ T fr)] (hc : C[off]? = some v) :
  Yl x (.load t o) ty E ρ L v := fun a w _ _ _ _ ha hw => by
 simp [execOp, ha.eval h, run_loadAt_cell hA (hw.find hF) (v := v) (by simpa using hc)]
theorem y_load_a {o : Operand} {t b n : Nat} {l : List Value} {T : TypeId} {fr : Nat × Nat} (h : ev E o = some (.pointer (some ⟨b, 0, none⟩))) [hA : TyA x.P t n] [hF : Find b L (.cells ⟨l⟩ T fr)] (hn : l.length = n) :
  Yl x (.load t o) ty E ρ L (.agg ⟨l⟩) := fun a w _ _ _ _ ha hw => by
 have := Ws (off := 0) hA (hw.find hF) (by omega)
 rw [List.drop_zero, List.take_of_length_le (by omega)] at this
 simp [execOp, ha.eval h, this]
theorem y_load_part {o : Operand} {t b off n : Nat} {l m : List Value} {T : TypeId} {fr : Nat × Nat} (h : ev E o = some (.pointer (some ⟨b, off, none⟩))) [hA : TyA x.P t n] [hF : Find b L (.cells ⟨l⟩ T fr)] (hn : off + n ≤ l.length)
  (hm : (l.drop off).take n = m) : Yl x (.load t o) ty E ρ L (.agg ⟨m⟩) := fun a w _ _ _ _ ha hw => by
 have := Ws (off := off) hA (hw.find hF) hn
 rw [hm] at this
 simp [execOp, ha.eval h, this]
theorem y_load_is {o : Operand} {t b off : Nat} {C : List Value} {T : TypeId} {fr : Nat × Nat} {v : Value} (h : ev E o = some (.pointer (some ⟨b, off, none⟩))) [hA : TyS x.P t] (hF : ρ b = some (.cells ⟨C⟩ T fr)) (hc : C[off]? = some v) :
  Yl x (.load t o) ty E ρ L v := fun a w _ _ _ _ ha hw => by
 simp [execOp, ha.eval h, run_loadAt_cell hA (hw.imm _ _ hF) (v := v) (by simpa using hc)]
theorem XZ {o : Operand} {t b off n : Nat} {l m : List Value} {T : TypeId} {fr : Nat × Nat} (h : ev E o = some (.pointer (some ⟨b, off, none⟩))) [hA : TyA x.P t n] (hF : ρ b = some (.cells ⟨l⟩ T fr)) (hn : off + n ≤ l.length)
  (hm : (l.drop off).take n = m) : Yl x (.load t o) ty E ρ L (.agg ⟨m⟩) := fun a w _ _ _ _ ha hw => by
 have := Ws (off := off) hA (hw.imm _ _ hF) hn
 rw [hm] at this
 simp [execOp, ha.eval h, this]
theorem Yo (b o n : Nat) : (⟨b, o, none⟩ : Addr).add n = ⟨b, o + n, none⟩ := by unfold Addr.add; split <;> simp_all
theorem y_fieldAddr {o : Operand} {s f b off d ft : Nat} (h : ev E o = some (.pointer (some ⟨b, off, none⟩))) [hF : Ys x.P s f d ft] : Yl x (.fieldAddr s o f) ty E ρ L (.pointer (some ⟨b, off + d, none⟩)) := fun a w _ _ _ _ ha hw => by
 obtain ⟨fs, fd, i, h1, h2, h3, h4, h5, h6⟩ := hF.out
 simp [execOp, ha.eval h, Instr.fieldAt, underlying, h1, h2, Instr.sureAddr, fieldPlace, sizeOf, typeInfo, h4, h5, h6, h3, Yo]
theorem y_indexAddr {o i : Operand} {t e sz b off len cap : Nat} {k : IntKind} {n : Int} (h : ev E o = some (.slice (some ⟨b, off, none⟩) len cap)) (hi : ev E i = some (.int k n)) [hS : ZT x.P t e] [hZ : ZJ x.P e sz] (h0 : 0 ≤ n) (h1 : n < len) :
  Yl x (.indexAddr t o i) ty E ρ L (.pointer (some ⟨b, off + n.toNat * sz, none⟩)) := fun a w _ _ _ _ ha hw => by
 obtain ⟨inf, g1, g2⟩ := hZ.out
 simp [execOp, ha.eval h, ha.eval hi, Instr.indexAt, asIntOf, underlying, hS.out, h0, h1, sizeOf, typeInfo, g1, g2, Yo]
theorem Wf {o i : Operand} {t len e sz b off : Nat} {k : IntKind} {n : Int} (h : ev E o = some (.pointer (some ⟨b, off, none⟩))) (hi : ev E i = some (.int k n)) [hS : TyArr x.P t len e] [hZ : ZJ x.P e sz] (h0 : 0 ≤ n) (h1 : n < len) :
  Yl x (.indexAddr t o i) ty E ρ L (.pointer (some ⟨b, off + n.toNat * sz, none⟩)) := fun a w _ _ _ _ ha hw => by
 obtain ⟨inf, g1, g2⟩ := hZ.out
 simp [execOp, ha.eval h, ha.eval hi, Instr.indexAt, asIntOf, underlying, hS.out, h0, h1, sizeOf, typeInfo, g1, g2, Yo, Instr.sureAddr]
theorem y_field_s {o : Operand} {s f d ft : Nat} {C : List Value} {v : Value} (h : ev E o = some (.agg ⟨C⟩)) [hF : Ys x.P s f d ft] [hT : TyS x.P ft] (hc : C[d]? = some v) : Yl x (.field s o f) ty E ρ L v := fun a w _ _ _ _ ha hw => by
 obtain ⟨fs, fd, i, h1, h2, h3, h4, h5, h6⟩ := hF.out
 obtain ⟨de, i', g1, g2, g3, g4⟩ := hT.out
 have hag : (isAgg ft).run x.P w = .ok false w := by
  simp only [isAgg, underlying, Sem.run_bind, run_program, Result.andThen_ok, g1, Sem.run_pure]
  cases de <;> simp_all
 simp [execOp, ha.eval h, Instr.field, underlying, h1, h2, asAgg, part, h4, hag, h3, hc]
theorem y_field_a {o : Operand} {s f d ft n : Nat} {l : List Value} (h : ev E o = some (.agg ⟨l⟩)) [hF : Ys x.P s f d ft] [hT : TyA x.P ft n] {m : List Value} (hm : (l.drop d).take n = m) : Yl x (.field s o f) ty E ρ L (.agg ⟨m⟩) := fun a w _ _ _ _ ha hw => by
 obtain ⟨fs, fd, i, h1, h2, h3, h4, h5, h6⟩ := hF.out
 obtain ⟨de, i', g1, g2, g3, g4⟩ := hT.out
 have hag : (isAgg ft).run x.P w = .ok true w := by
  simp only [isAgg, underlying, Sem.run_bind, run_program, Result.andThen_ok, g1, Sem.run_pure]
  cases de <;> simp_all
 simp [execOp, ha.eval h, Instr.field, underlying, h1, h2, asAgg, part, h4, hag, h3, sizeOf, typeInfo, g3, g4, hm]
def lo : IntKind → Int
 | .i8 => -128 | .i16 => -32768 | .i32 => -2147483648 | .i64 => -9223372036854775808 | _ => 0
def hi : IntKind → Int
 | .i8 => 127 | .i16 => 32767 | .i32 => 2147483647 | .i64 => 9223372036854775807 | .u8 => 255 | .u16 => 65535 | .u32 => 4294967295 | .u64 => 18446744073709551615
theorem wrap_id {k : IntKind} {n : Int} (h : lo k ≤ n ∧ n ≤ hi k) : k.wrap n = n := by
 obtain ⟨h1, h2⟩ := h
 cases k <;> simp only [lo, hi] at h1 h2 <;> simp only [IntKind.wrap, IntKind.bits, IntKind.signed, Bool.true_and, Bool.false_and, Bool.false_eq_true, if_false] <;> (try split) <;> simp_all <;> omega
theorem y_add_w {p q : Operand} {t t' : TypeId} {k : IntKind} {m n : Int} (h1 : ev E p = some (.int k m)) (h2 : ev E q = some (.int k n)) : Yl x (.binOp .add t p q t') ty E ρ L (.int k (k.wrap (m + n))) := fun a w _ _ _ _ ha _ => by
 simp [execOp, ha.eval h1, ha.eval h2, eqGuard, binOp, Op.intArith]
theorem y_add {p q : Operand} {t t' : TypeId} {k : IntKind} {m n : Int} (h1 : ev E p = some (.int k m)) (h2 : ev E q = some (.int k n)) (h : lo k ≤ m + n ∧ m + n ≤ hi k) : Yl x (.binOp .add t p q t') ty E ρ L (.int k (m + n)) := by
 have := y_add_w (x := x) (E := E) (ρ := ρ) (L := L) (ty := ty) (t := t) (t' := t') h1 h2
 rwa [wrap_id h] at this
theorem y_sub_w {p q : Operand} {t t' : TypeId} {k : IntKind} {m n : Int} (h1 : ev E p = some (.int k m)) (h2 : ev E q = some (.int k n)) : Yl x (.binOp .sub t p q t') ty E ρ L (.int k (k.wrap (m - n))) := fun a w _ _ _ _ ha _ => by
 simp [execOp, ha.eval h1, ha.eval h2, eqGuard, binOp, Op.intArith]
theorem y_sub {p q : Operand} {t t' : TypeId} {k : IntKind} {m n : Int} (h1 : ev E p = some (.int k m)) (h2 : ev E q = some (.int k n)) (h : lo k ≤ m - n ∧ m - n ≤ hi k) : Yl x (.binOp .sub t p q t') ty E ρ L (.int k (m - n)) := by
 have := y_sub_w (x := x) (E := E) (ρ := ρ) (L := L) (ty := ty) (t := t) (t' := t') h1 h2
 rwa [wrap_id h] at this
theorem y_mul_w {p q : Operand} {t t' : TypeId} {k : IntKind} {m n : Int} (h1 : ev E p = some (.int k m)) (h2 : ev E q = some (.int k n)) : Yl x (.binOp .mul t p q t') ty E ρ L (.int k (k.wrap (m * n))) := fun a w _ _ _ _ ha _ => by
 simp [execOp, ha.eval h1, ha.eval h2, eqGuard, binOp, Op.intArith]
theorem y_mul {p q : Operand} {t t' : TypeId} {k : IntKind} {m n : Int} (h1 : ev E p = some (.int k m)) (h2 : ev E q = some (.int k n)) (h : lo k ≤ m * n ∧ m * n ≤ hi k) : Yl x (.binOp .mul t p q t') ty E ρ L (.int k (m * n)) := by
 have := y_mul_w (x := x) (E := E) (ρ := ρ) (L := L) (ty := ty) (t := t) (t' := t') h1 h2
 rwa [wrap_id h] at this
theorem y_rem {p q : Operand} {t t' : TypeId} {k : IntKind} {m n : Int} (h1 : ev E p = some (.int k m)) (h2 : ev E q = some (.int k n)) (hn : n ≠ 0) : Yl x (.binOp .rem t p q t') ty E ρ L (.int k (m.tmod n)) := fun a w _ _ _ _ ha _ => by
 simp [execOp, ha.eval h1, ha.eval h2, eqGuard, binOp, Op.intDiv, hn]
theorem y_quo_w {p q : Operand} {t t' : TypeId} {k : IntKind} {m n : Int} (h1 : ev E p = some (.int k m)) (h2 : ev E q = some (.int k n)) (hn : n ≠ 0) : Yl x (.binOp .quo t p q t') ty E ρ L (.int k (k.wrap (m.tdiv n))) := fun a w _ _ _ _ ha _ => by
 simp [execOp, ha.eval h1, ha.eval h2, eqGuard, binOp, Op.intDiv, hn]
def cmpB : BinOp → Int → Int → Option Bool
 | .eql, a, b => some (a == b) | .neq, a, b => some (a != b) | .lss, a, b => some (a < b) | .leq, a, b => some (a ≤ b) | .gtr, a, b => some (a > b) | .geq, a, b => some (a ≥ b)
 | _, _, _ => none
theorem y_cmp {o : BinOp} {p q : Operand} {t t' : TypeId} {k : IntKind} {m n : Int} {b : Bool} (h1 : ev E p = some (.int k m)) (h2 : ev E q = some (.int k n)) (hb : cmpB o m n = some b) : Yl x (.binOp o t p q t') ty E ρ L (.bool b) := fun a w _ _ _ _ ha _ => by
 cases o <;> simp [cmpB] at hb <;> subst hb <;> simp [execOp, ha.eval h1, ha.eval h2, eqGuard, binOp, Op.intCmp]
theorem y_conv {p : Operand} {s t : TypeId} {k k' : IntKind} {n : Int} (h : ev E p = some (.int k' n)) [hk : YV x.P t k] [hs : YV x.P s k'] : Yl x (.convert s t p) ty E ρ L (.int k (k.wrap n)) := fun a w _ _ _ _ ha _ => by
 simp [execOp, ha.eval h, convert, underlying, hk.out, hs.out, Conv.intToInt]
theorem y_len {p : Operand} {t e : TypeId} {s : Option Addr} {n c : Nat} [hS : ZT x.P t e] (h : ev E p = some (.slice s n c)) : Yl x (.call { callee := .builtin .len, args := #[p], argTypes := #[t] }) ty E ρ L (.int .i64 n) := fun a w _ _ _ _ ha _ => by
 simp [execOp, ha.eval h, resolve, invoke, builtin, Builtin.len_, underlying, hS.out, goInt]
theorem y_max {p q : Operand} {ats : Array TypeId} {k k' : IntKind} {m n : Int} (h1 : ev E p = some (.int k m)) (h2 : ev E q = some (.int k' n)) : Yl x (.call { callee := .builtin .max, args := #[p, q], argTypes := ats }) ty E ρ L (.int k (max m n)) := fun a w _ _ _ _ ha _ => by
 have : (if n > m then n else m) = max m n := by omega
 simp [execOp, ha.eval h1, ha.eval h2, resolve, invoke, builtin, Builtin.max_, Builtin.max2]
 omega
theorem y_min {p q : Operand} {ats : Array TypeId} {k k' : IntKind} {m n : Int} (h1 : ev E p = some (.int k m)) (h2 : ev E q = some (.int k' n)) : Yl x (.call { callee := .builtin .min, args := #[p, q], argTypes := ats }) ty E ρ L (.int k (min m n)) := fun a w _ _ _ _ ha _ => by
 simp [execOp, ha.eval h1, ha.eval h2, resolve, invoke, builtin, Builtin.min_, Builtin.min2]
 omega
theorem run_equal_ptr_nil {P : Program} {t e : TypeId} (hP : TyPtr P t e) (s : Option Addr) (w : World) : (Op.equal t (.pointer s) (.pointer none)).run P w = .ok s.isNone w := by
 have hd : Op.maxDepth = 9999 + 1 := rfl
 rw [Op.equal, hd, Op.equalIn]
 simp only [Sem.run_bind, underlying, run_program, Result.andThen_ok, hP.out, Sem.run_pure]
 cases s <;> rfl
def isFuncB : Value → Option Bool
 | .nilFunc => some false
 | .func _ _ _ => some true
 | _ => none
theorem run_equal_func_nil {P : Program} {t : TypeId} (hP : Yy P t) {v : Value} {c : Bool} (hv : isFuncB v = some c) (w : World) : (Op.equal t v .nilFunc).run P w = .ok (!c) w := by
 have hd : Op.maxDepth = 9999 + 1 := rfl
 obtain ⟨f1, f2, f3, hf⟩ := hP.out
 rw [Op.equal, hd, Op.equalIn]
 simp only [Sem.run_bind, underlying, run_program, Result.andThen_ok, hf, Sem.run_pure]
 cases v <;> simp [isFuncB] at hv <;> subst hv <;> rfl
def eqB : BinOp → Bool → Option Bool
 | .eql, b => some b
 | .neq, b => some (!b)
 | _, _ => none
def plainEq : Value → Bool
 | .int _ _ | .float _ _ | .complex _ _ _ | .string _ | .nilIface | .agg _ => false
 | _ => true
theorem y_eq {o : BinOp} {p q : Operand} {t t' : TypeId} {u v : Value} {b c : Bool} (h1 : ev E p = some u) (h2 : ev E q = some v) (hu : plainEq u = true) (hr : ∀ w, (Op.equal t u v).run x.P w = .ok c w)
  (hb : eqB o c = some b) : Yl x (.binOp o t p q t') ty E ρ L (.bool b) := fun a w _ _ _ _ ha _ => by
 have hg : (eqGuard o t p q u v).run x.P w = .ok () w := by
  cases o <;> simp [eqB] at hb <;> cases u <;> simp [plainEq] at hu <;> simp [eqGuard]
 have hbin : (binOp o t u v).run x.P w = .ok (.bool b) w := by
  cases o <;> simp only [eqB, Option.some.injEq, reduceCtorEq] at hb <;> subst hb <;> cases u <;> simp only [plainEq, Bool.false_eq_true] at hu <;> simp only [binOp, Sem.run_bind, hr, Result.andThen_ok, Sem.run_pure]
 simp only [execOp, ha.eval h1, ha.eval h2, Sem.run_bind, hg, Result.andThen_ok, hbin, Sem.run_pure]
theorem y_ptr_nil {o : BinOp} {p q : Operand} {t t' e : TypeId} {s : Option Addr} {b : Bool} [hP : TyPtr x.P t e] (h1 : ev E p = some (.pointer s)) (h2 : ev E q = some (.pointer none))
  (hb : eqB o s.isNone = some b) : Yl x (.binOp o t p q t') ty E ρ L (.bool b) :=
 y_eq h1 h2 rfl (fun w => run_equal_ptr_nil hP s w) hb
theorem y_func_nil {o : BinOp} {p q : Operand} {t t' : TypeId} {v : Value} {b c : Bool} [hP : Yy x.P t] (h1 : ev E p = some v) (h2 : ev E q = some .nilFunc) (hv : isFuncB v = some c)
  (hb : eqB o (!c) = some b) : Yl x (.binOp o t p q t') ty E ρ L (.bool b) :=
 y_eq h1 h2 (by cases v <;> simp [isFuncB] at hv <;> rfl) (fun w => run_equal_func_nil hP hv w) hb
end
end Go.Proofs.E
