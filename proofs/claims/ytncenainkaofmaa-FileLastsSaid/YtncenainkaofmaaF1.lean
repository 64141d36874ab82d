/- Contents of layer 3, disks of layer 2 and files of layer 14 as data, and what their functions come to. Part 1 of 6. -/
import Derived.WalkKit
import Derived.OrdersIn
import Derived.RangeFuncLeaves
import Derived.RangeFuncIn
import Derived.KernelRfl
import Derived.MapKept
import Derived.RangeFuncNested
import Derived.StillTail
import Derived.OrdersHeld
import Derived.Stop.BytesEq
import Derived.Deep.Upon
import Derived.Laws.Externs
import Derived.Laws.BytesString
import Derived.Laws.CopyRow
import Derived.Laws.IdiomCopy
import Derived.Lib.AppendStr
import Derived.Laws.StructEq
import Derived.Laws.Slices
import Derived.Scope
namespace Go.Proofs.E
open Go
set_option linter.unusedVariables false
set_option linter.unusedSimpArgs false

/-! ## heaps that are known in part, symbolic heaps -/
abbrev Hp := Nat → Option Obj
abbrev SH := List (List (Nat × Obj))

def Hp.le (ρ ρ' : Hp) : Prop := ∀ b o, ρ b = some o → ρ' b = some o
theorem Hp.le_refl (ρ : Hp) : ρ.le ρ := fun _ _ h => h
theorem Hp.le_trans {a b c : Hp} (h : a.le b) (k : b.le c) : a.le c := fun _ _ x => k _ _ (h _ _ x)

/-- the blocks of `L` are what they say, apart from one another and from the blocks of `ρ`, which lie as `ρ` says; the streams are those of `u`. -/
structure Sat (u : World) (ρ : Hp) (L : SH) (w : World) : Prop where
  os : w.os = u.os
  tape : w.tape = u.tape
  output : w.output = u.output
  nodup : (L.flatten.map Prod.fst).Nodup
  here : ∀ p ∈ L.flatten, w.heap[p.1]? = some p.2
  apart : ∀ p ∈ L.flatten, ρ p.1 = none
  imm : ∀ b o, ρ b = some o → w.heap[b]? = some o

theorem Sat.perm {u ρ w} {L L' : SH} (h : Sat u ρ L w) (hp : L.flatten.Perm L'.flatten) : Sat u ρ L' w :=
  ⟨h.os, h.tape, h.output, (hp.map _).nodup_iff.1 h.nodup, fun p hm => h.here p (hp.mem_iff.2 hm), fun p hm => h.apart p (hp.mem_iff.2 hm), h.imm⟩

theorem Sat.sub {u ρ w} {L L' : SH} (h : Sat u ρ L w) (hp : List.Sublist L'.flatten L.flatten) : Sat u ρ L' w :=
  ⟨h.os, h.tape, h.output, (hp.map _).nodup h.nodup, fun p hm => h.here p (hp.subset hm), fun p hm => h.apart p (hp.subset hm), h.imm⟩

theorem Sat.drew {u ρ w} {L : SH} (h : Sat u ρ L w) : Sat u ρ L { w with drawn := w.drawn + 1 } :=
  ⟨h.os, h.tape, h.output, h.nodup, h.here, h.apart, h.imm⟩

/-- a new block -/
theorem Sat.new {u ρ w} {L : SH} (h : Sat u ρ L w) (o : Obj) : Sat u ρ ([(w.heap.size, o)] :: L) { w with heap := w.heap.push o } := by
  have hlt : ∀ p ∈ L.flatten, p.1 < w.heap.size := fun p hp => (Array.getElem?_eq_some_iff.1 (h.here p hp)).1
  have old : ∀ b x, w.heap[b]? = some x → (w.heap.push o)[b]? = some x := fun b x hx => by
    have := (Array.getElem?_eq_some_iff.1 hx).1
    rw [Array.getElem?_push, if_neg (by omega)]; exact hx
  refine ⟨h.os, h.tape, h.output, ?_, ?_, ?_, fun b x hx => old b x (h.imm b x hx)⟩
  · simp only [List.flatten_cons, List.singleton_append, List.map_cons, List.nodup_cons]
    refine ⟨fun hm => ?_, h.nodup⟩
    obtain ⟨p, hp, he⟩ := List.mem_map.1 hm
    have := hlt p hp; omega
  · intro p hp
    simp only [List.flatten_cons, List.singleton_append, List.mem_cons] at hp
    rcases hp with rfl | hp
    · simp
    · exact old _ _ (h.here p hp)
  · intro p hp
    simp only [List.flatten_cons, List.singleton_append, List.mem_cons] at hp
    rcases hp with rfl | hp
    · cases hx : ρ w.heap.size with
      | none => rfl
      | some x => have := (Array.getElem?_eq_some_iff.1 (h.imm _ _ hx)).1; omega
    · exact h.apart p hp

/-- a world in which one block has turned -/
def putB (w : World) (b : Nat) (o : Obj) : World := { w with heap := w.heap.setIfInBounds b o }

theorem Sat.put {u ρ w} {b : Nat} {o : Obj} {L : SH} (h : Sat u ρ ([(b, o)] :: L) w) (o' : Obj) : Sat u ρ ([(b, o')] :: L) (putB w b o') := by
  have hb := h.here (b, o) (by simp)
  have hlt := (Array.getElem?_eq_some_iff.1 hb).1
  have hnd := h.nodup
  simp only [List.flatten_cons, List.singleton_append, List.map_cons, List.nodup_cons] at hnd
  have other : ∀ c, c ≠ b → (w.heap.setIfInBounds b o')[c]? = w.heap[c]? := fun c hc => by
    rw [Array.getElem?_setIfInBounds_ne (by omega)]
  refine ⟨h.os, h.tape, h.output, by simpa using hnd, ?_, ?_, ?_⟩
  · intro p hp
    simp only [List.flatten_cons, List.singleton_append, List.mem_cons] at hp
    rcases hp with rfl | hp
    · simp [putB, hlt]
    · have hne : p.1 ≠ b := fun e => hnd.1 (e ▸ List.mem_map_of_mem hp)
      simp only [putB]
      rw [other _ hne]
      exact h.here p (by simp [hp])
  · intro p hp
    simp only [List.flatten_cons, List.singleton_append, List.mem_cons] at hp
    rcases hp with rfl | hp
    · exact h.apart (b, o) (by simp)
    · exact h.apart p (by simp [hp])
  · intro c x hx
    have hne : c ≠ b := fun e => by
      have := h.apart (b, o) (by simp)
      simp only at this
      rw [e, this] at hx; cases hx
    simp only [putB]
    rw [other _ hne]
    exact h.imm c x hx

/-- freezing a chunk: from now on its blocks never turn -/
def Hp.with (ρ : Hp) (c : List (Nat × Obj)) : Hp := fun b => match c.find? (fun p => p.1 == b) with | some p => some p.2 | none => ρ b

theorem Sat.freeze {u ρ w} {c : List (Nat × Obj)} {L : SH} (h : Sat u ρ (c :: L) w) : Sat u (ρ.with c) L w ∧ ρ.le (ρ.with c) ∧ ∀ p ∈ c, (ρ.with c) p.1 = some p.2 := by
  have hnd := h.nodup
  simp only [List.flatten_cons, List.map_append, List.nodup_append] at hnd
  have inc : ∀ p ∈ c, (ρ.with c) p.1 = some p.2 := by
    intro p hp
    unfold Hp.with
    cases hf : c.find? (fun q => q.1 == p.1) with
    | none => simpa using List.find?_eq_none.1 hf p hp
    | some q =>
      have hq := List.mem_of_find?_eq_some hf
      have he : q.1 = p.1 := by simpa using List.find?_some hf
      have h1 := h.here q (by simp [hq])
      have h2 := h.here p (by simp [hp])
      rw [he, h2] at h1
      simp only [Option.some.injEq] at h1
      simp [h1]
  have outc : ∀ b, (∀ p ∈ c, p.1 ≠ b) → (ρ.with c) b = ρ b := by
    intro b hb
    unfold Hp.with
    rw [List.find?_eq_none.2 (fun p hp => by simpa using hb p hp)]
  refine ⟨⟨h.os, h.tape, h.output, hnd.2.1, fun p hp => h.here p (by simp [hp]), fun p hp => ?_, fun b o hb => ?_⟩, fun b o hb => ?_, inc⟩
  · rw [outc p.1 (fun q hq e => hnd.2.2 q.1 (List.mem_map_of_mem hq) p.1 (List.mem_map_of_mem hp) e)]
    exact h.apart p (by simp [hp])
  · unfold Hp.with at hb
    cases hf : c.find? (fun q => q.1 == b) with
    | none => rw [hf] at hb; exact h.imm b o hb
    | some q =>
      rw [hf] at hb
      simp only [Option.some.injEq] at hb
      have hq := List.mem_of_find?_eq_some hf
      have he : q.1 = b := by simpa using List.find?_some hf
      have := h.here q (by simp [hq])
      rw [he, hb] at this; exact this
  · rw [outc b (fun p hp e => by have := h.apart p (by simp [hp]); rw [e, hb] at this; cases this)]
    exact hb

/-! ## environments -/
def lk : List (Nat × Value) → Nat → Option Value
  | [], _ => none
  | (k, v) :: r, t => match Nat.beq k t with | true => some v | false => lk r t
abbrev Env := List (Nat × Value)
def ev (E : Env) : Operand → Option Value
  | .tmp t => lk E t
  | .const v => some v
  | .global g => some (.pointer (some ⟨g, 0, none⟩))
  | .func f => some (.func (.func f) #[] #[])
def evs (E : Env) : List Operand → Option (List Value)
  | [] => some []
  | x :: r => match ev E x, evs E r with | some v, some vs => some (v :: vs) | _, _ => none

structure Ok (D : List Deferred) (N : Nat) (E : Env) (a : Act) : Prop where
  defers : a.defers = D
  size : a.tmps.size = N
  get : ∀ t v, lk E t = some v → a.tmps[t]? = some v

theorem Ok.eval {D N E a} (h : Ok D N E a) {x : Operand} {v : Value} (hx : ev E x = some v) : a.eval x = v := by
  cases x with
  | tmp t => simp only [ev] at hx; simp [Act.eval, h.get t v hx]
  | const c => simp only [ev, Option.some.injEq] at hx; exact hx
  | global g => simp only [ev, Option.some.injEq] at hx; exact hx
  | func f => simp only [ev, Option.some.injEq] at hx; exact hx

theorem Ok.evals {D N E a} (h : Ok D N E a) : ∀ {xs : List Operand} {vs : List Value}, evs E xs = some vs → xs.map a.eval = vs
  | [], vs, hx => by simp only [evs, Option.some.injEq] at hx; simp [← hx]
  | x :: r, vs, hx => by
    simp only [evs] at hx
    cases h1 : ev E x with
    | none => simp [h1] at hx
    | some v =>
      cases h2 : evs E r with
      | none => simp [h1, h2] at hx
      | some ws =>
        simp only [h1, h2, Option.some.injEq] at hx
        simp [← hx, h.eval h1, h.evals h2]

theorem Ok.put {D N E a} (h : Ok D N E a) {d : Nat} (hd : d < N) (v : Value) : Ok D N ((d, v) :: E) (a.put (some d) v) := by
  refine ⟨by simp [Act.put, h.defers], by simp [Act.put, h.size], fun t x hx => ?_⟩
  simp only [lk] at hx
  simp only [Act.put]
  cases hb : Nat.beq d t with
  | true =>
    rw [hb] at hx
    simp only [Option.some.injEq] at hx
    have he : d = t := Nat.eq_of_beq_eq_true hb
    subst he; subst hx
    simp [h.size, hd]
  | false =>
    rw [hb] at hx
    have hne : d ≠ t := Nat.ne_of_beq_eq_false hb
    rw [Array.getElem?_setIfInBounds_ne hne]
    exact h.get t x hx

theorem Ok.put_none {D N E a} (h : Ok D N E a) (v : Value) : Ok D N E (a.put none v) := h

def EnvLe (E' E : Env) : Prop := ∀ t v, lk E' t = some v → lk E t = some v
theorem EnvLe.refl (E : Env) : EnvLe E E := fun _ _ h => h
theorem EnvLe.nil (E : Env) : EnvLe [] E := fun _ _ h => by cases h
theorem EnvLe.cons {E' E : Env} {t : Nat} {v : Value} (h : lk E t = some v) (k : EnvLe E' E) : EnvLe ((t, v) :: E') E := by
  intro s x hx
  simp only [lk] at hx
  cases hb : Nat.beq t s with
  | true =>
    rw [hb] at hx
    simp only [Option.some.injEq] at hx
    have he : t = s := Nat.eq_of_beq_eq_true hb
    subst he; subst hx; exact h
  | false => rw [hb] at hx; exact k s x hx
theorem Ok.le {D N E E' a} (h : Ok D N E a) (k : EnvLe E' E) : Ok D N E' a := ⟨h.defers, h.size, fun t v hv => h.get t v (k t v hv)⟩

def Fw (ro : Option Nat) : Fence := { Fence.wide with round := ro }
theorem Fw_none : Fw none = Fence.wide := rfl
theorem Fw_in (ro l) : (Fw ro).inRound l = Fw (some l) := rfl

/-! ## the goals of a walk -/
/-- what stays the same in one activation -/
structure Cx where
  ro : Option Nat
  P : Program
  u : World
  D : List Deferred
  N : Nat

def TC (x : Cx) (c : Code) (Q : Exit → Act → World → Prop) (E : Env) (ρ : Hp) (L : SH) : Prop :=
  ∀ a w, Ok x.D x.N E a → Sat x.u ρ L w → c.wpIn (Fw x.ro) 0 x.P Q a w
def TL (x : Cx) (ops : Array Oper) (l : List Oper) (Q : Exit → Act → World → Prop) (E : Env) (ρ : Hp) (L : SH) : Prop :=
  ∀ a w, Ok x.D x.N E a → Sat x.u ρ L w → wpListIn (Fw x.ro) 0 x.P ops Q l a w
def TE (x : Cx) (e : Exit) (Q : Exit → Act → World → Prop) (E : Env) (ρ : Hp) (L : SH) : Prop :=
  ∀ a w, Ok x.D x.N E a → Sat x.u ρ L w → Q e a w

section
variable {x : Cx} {Q : Exit → Act → World → Prop} {E : Env} {ρ : Hp} {L : SH}
/-- the rest of the code, as what is asked behind the first part -/
def KC (x : Cx) (y : Code) (Q : Exit → Act → World → Prop) : Act → World → Prop := fun a w => y.wpIn (Fw x.ro) 0 x.P Q a w

theorem tc_seq {y z : Code} (h : TC x y (Exit.then (KC x z Q) Q) E ρ L) : TC x (.seq y z) Q E ρ L := fun a w ha hw => wpIn_seq (h a w ha hw)
theorem te_seq {z : Code} (h : TC x z Q E ρ L) : TE x .normal (Exit.then (KC x z Q) Q) E ρ L := fun a w ha hw => h a w ha hw
theorem te_then_ret {K} (h : TE x .ret Q E ρ L) : TE x .ret (Exit.then K Q) E ρ L := h
theorem te_then_exit {K id} (h : TE x (.exit id) Q E ρ L) : TE x (.exit id) (Exit.then K Q) E ρ L := h
theorem tc_block {id : Nat} {c : Code} (h : TC x c (Exit.inBlock id Q) E ρ L) : TC x (.block id c) Q E ρ L := fun a w ha hw => wpIn_block (h a w ha hw)
theorem te_block_normal {id} (h : TE x .normal Q E ρ L) : TE x .normal (Exit.inBlock id Q) E ρ L := h
theorem te_block_ret {id} (h : TE x .ret Q E ρ L) : TE x .ret (Exit.inBlock id Q) E ρ L := h
theorem te_block_hit {id} (h : TE x .normal Q E ρ L) : TE x (.exit id) (Exit.inBlock id Q) E ρ L := fun a w ha hw => by
  simp only [Exit.inBlock, if_true]; exact h a w ha hw
theorem te_block_miss {id id' : Nat} (hne : Nat.beq id' id = false) (h : TE x (.exit id') Q E ρ L) : TE x (.exit id') (Exit.inBlock id Q) E ρ L := fun a w ha hw => by
  simp only [Exit.inBlock, if_neg (Nat.ne_of_beq_eq_false hne)]; exact h a w ha hw
theorem tc_ret (h : TE x .ret Q E ρ L) : TC x .ret Q E ρ L := fun a w ha hw => wpIn_ret (h a w ha hw)
theorem tc_skip (h : TE x .normal Q E ρ L) : TC x .skip Q E ρ L := fun a w ha hw => wpIn_skip (h a w ha hw)
theorem tc_label {l} (h : TE x .normal Q E ρ L) : TC x (.label l) Q E ρ L := fun a w ha hw => wpIn_label (h a w ha hw)
theorem tc_exit {id} (h : TE x (.exit id) Q E ρ L) : TC x (.exit id) Q E ρ L := fun a w ha hw => wpIn_exit (h a w ha hw)
theorem tc_cond_t {c : Operand} {y z : Code} (hc : ev E c = some (.bool true)) (h : TC x y Q E ρ L) : TC x (.cond c y z) Q E ρ L :=
  fun a w ha hw => wpIn_cond_true (ha.eval hc) (h a w ha hw)
theorem tc_cond_f {c : Operand} {y z : Code} (hc : ev E c = some (.bool false)) (h : TC x z Q E ρ L) : TC x (.cond c y z) Q E ρ L :=
  fun a w ha hw => wpIn_cond_false (ha.eval hc) (h a w ha hw)
theorem tc_cond {c : Operand} {y z : Code} {b : Bool} (hc : ev E c = some (.bool b)) (h1 : b = true → TC x y Q E ρ L) (h2 : b = false → TC x z Q E ρ L) : TC x (.cond c y z) Q E ρ L :=
  fun a w ha hw => wpIn_cond_split (ha.eval hc) (fun hb => h1 hb a w ha hw) (fun hb => h2 hb a w ha hw)
theorem tc_region {id : Nat} {l : List Oper} (h : TL x l.toArray l Q E ρ L) : TC x (.region id l.toArray false) Q E ρ L :=
  fun a w ha hw => wpIn_region_lit (h a w ha hw)
theorem tl_nil {ops} (h : TE x .normal Q E ρ L) : TL x ops [] Q E ρ L := fun a w ha hw => wpListIn_nil (h a w ha hw)

theorem TC.weaken {c : Code} {E' : Env} {L' : SH} (h : TC x c Q E' ρ L') (hE : EnvLe E' E) (hL : List.Sublist L'.flatten L.flatten) : TC x c Q E ρ L :=
  fun a w ha hw => h a w (ha.le hE) (hw.sub hL)
theorem TC.perm {c : Code} {L' : SH} (h : TC x c Q E ρ L') (hL : L.flatten.Perm L'.flatten) : TC x c Q E ρ L :=
  fun a w ha hw => h a w ha (hw.perm hL)
theorem TL.perm {ops l} {L' : SH} (h : TL x ops l Q E ρ L') (hL : L.flatten.Perm L'.flatten) : TL x ops l Q E ρ L :=
  fun a w ha hw => h a w ha (hw.perm hL)

/-! ### a loop -/
theorem wpIn_loop_ghost {F : Fence} {n : Nat} {P : Program} {Y : Type} {c : Code} (I : Y → Act → World → Prop) (μ : Y → Nat) {Q : Exit → Act → World → Prop} {a : Act} {w : World} (y0 : Y) (h₀ : I y0 a w)
    (round : ∀ y a w, I y a w → c.wpIn F n P (Exit.then (fun a' w' => ∃ y', I y' a' w' ∧ μ y' < μ y) Q) a w) : (Code.loop c).wpIn F n P Q a w := by
  intro b k cs hro hb hr
  have key : ∀ j y a w, μ y = j → I y a w →
      ∃ e a' w', Q e a' w' ∧ ArrivesIn (Machine.fenced P F) P (lone (b.atR a (.code c :: .inLoop c :: k)) cs w) b k cs e a' w' := by
    intro j
    induction j using Nat.strongRecOn with
    | _ j ih =>
      intro y a w hn hI
      obtain ⟨e, a₁, w₁, hq, harr⟩ := round y a w hI b (.inLoop c :: k) cs hro hb hr
      cases e with
      | normal =>
        obtain ⟨y₁, hI₁, hlt⟩ := hq
        obtain ⟨e₂, a₂, w₂, hq₂, harr₂⟩ := ih (μ y₁) (hn ▸ hlt) y₁ a₁ w₁ rfl hI₁
        exact ⟨e₂, a₂, w₂, hq₂, .of_steps (StepsIn.trans harr (.one (fenced_calm hb hr rfl) stepR_inLoop)) harr₂⟩
      | exit id => exact ⟨_, a₁, w₁, hq, .pass (x := .inLoop c) rfl (fun _ _ => .inl (by simp)) harr⟩
      | goto l => exact ⟨_, a₁, w₁, hq, .pass (x := .inLoop c) rfl (fun _ _ => .inl (by simp)) harr⟩
      | ret => exact ⟨_, a₁, w₁, hq, .pass (x := .inLoop c) rfl (fun _ _ => .inl (by simp)) harr⟩
      | panic ch => exact ⟨_, a₁, w₁, hq, .pass (x := .inLoop c) rfl (fun _ _ => .inl (by simp)) harr⟩
      | outgrown => exact ⟨_, a₁, w₁, hq, .pass (x := .inLoop c) rfl (fun _ _ => .inl (by simp)) harr⟩
  obtain ⟨e, a', w', hq, harr⟩ := key _ y0 a w rfl h₀
  exact ⟨e, a', w', hq, .of_steps (.one (fenced_calm hb hr rfl) stepR_loop) harr⟩

/-- where a loop's round begins and ends -/
structure LS where
  E : Env
  ρ : Hp
  L : SH
/-- what is asked at a round's end -/
def KR (x : Cx) {Y : Type} (S : Y → LS) (I : Y → Prop) (μ : Y → Nat) (y : Y) : Act → World → Prop :=
  fun a w => ∃ y', (Ok x.D x.N (S y').E a ∧ Sat x.u (S y').ρ (S y').L w ∧ I y') ∧ μ y' < μ y

theorem tc_loop {Y : Type} {c : Code} (S : Y → LS) (I : Y → Prop) (μ : Y → Nat) (y0 : Y) (h0 : I y0)
    (hE : EnvLe (S y0).E E) (hρ : (S y0).ρ = ρ) (hL : L.flatten.Perm (S y0).L.flatten)
    (round : ∀ y, I y → TC x c (Exit.then (KR x S I μ y) Q) (S y).E (S y).ρ (S y).L) :
    TC x (.loop c) Q E ρ L := by
  intro a w ha hw
  refine wpIn_loop_ghost (fun y a w => Ok x.D x.N (S y).E a ∧ Sat x.u (S y).ρ (S y).L w ∧ I y) μ y0 ⟨ha.le hE, by rw [hρ]; exact hw.perm hL, h0⟩ ?_
  rintro y a w ⟨h1, h2, h3⟩
  exact round y h3 a w h1 h2

theorem te_round {Y : Type} {S : Y → LS} {I : Y → Prop} {μ : Y → Nat} {y : Y} (y' : Y) (hI : I y') (hE : EnvLe (S y').E E) (hρ : (S y').ρ = ρ) (hL : L.flatten.Perm (S y').L.flatten) (hμ : μ y' < μ y) :
    TE x .normal (Exit.then (KR x S I μ y) Q) E ρ L := fun a w ha hw => ⟨y', ⟨ha.le hE, by rw [hρ]; exact hw.perm hL, hI⟩, hμ⟩

/-- a cut: what is known behind the first part -/
theorem tc_cut {y z : Code} {Y : Type} (S : Y → LS) (I : Y → Prop)
    (h : TC x y (Exit.then (fun a w => ∃ y', Ok x.D x.N (S y').E a ∧ Sat x.u (S y').ρ (S y').L w ∧ I y') Q) E ρ L)
    (k : ∀ y', I y' → TC x z Q (S y').E (S y').ρ (S y').L) : TC x (.seq y z) Q E ρ L := fun a w ha hw =>
  wpIn_seq (wpIn_mono (h a w ha hw) fun e a w q => by
    cases e <;> first | exact q | exact (let ⟨y', h1, h2, h3⟩ := q; k y' h3 a w h1 h2))
theorem te_cut {Y : Type} {S : Y → LS} {I : Y → Prop} (y' : Y) (hI : I y') (hE : EnvLe (S y').E E) (hρ : (S y').ρ = ρ) (hL : L.flatten.Perm (S y').L.flatten) :
    TE x .normal (Exit.then (fun a w => ∃ y', Ok x.D x.N (S y').E a ∧ Sat x.u (S y').ρ (S y').L w ∧ I y') Q) E ρ L :=
  fun a w ha hw => ⟨y', ha.le hE, by rw [hρ]; exact hw.perm hL, hI⟩
end
end Go.Proofs.E

namespace Go.Proofs.E
open Go
set_option linter.unusedVariables false
set_option linter.unusedSimpArgs false

/-! ## tables -/
class TyS (P : Program) (t : TypeId) : Prop where
  out : ∃ d i, P.underlying t = some d ∧ (match d with | .struct _ | .array _ _ => true | _ => false) = false ∧ P.info? t = some i ∧ i.size = 1
class TyA (P : Program) (t : TypeId) (n : outParam Nat) : Prop where
  out : ∃ d i, P.underlying t = some d ∧ (match d with | .struct _ | .array _ _ => true | _ => false) = true ∧ P.info? t = some i ∧ i.size = n
class TySz (P : Program) (t : TypeId) (n : outParam Nat) : Prop where
  out : ∃ i, P.info? t = some i ∧ i.size = n
class TyBytes (P : Program) (t : TypeId) (n : outParam Nat) : Prop where
  out : ∃ i, P.info? t = some i ∧ i.bytes = n
class TyZero (P : Program) (t : TypeId) (z : outParam Value) : Prop where
  out : ∃ i, P.info? t = some i ∧ i.zero = some z
class TySlice (P : Program) (t : TypeId) (e : outParam TypeId) : Prop where
  out : P.underlying t = some (.slice e)
class TyArr (P : Program) (t : TypeId) (n : outParam Nat) (e : outParam TypeId) : Prop where
  out : P.underlying t = some (.array n e)
class TyMap (P : Program) (t : TypeId) (k e : outParam TypeId) : Prop where
  out : P.underlying t = some (.map k e)
class TyInt (P : Program) (t : TypeId) (k : outParam IntKind) : Prop where
  out : P.underlying t = some (.int k)
class TyPtr (P : Program) (t : TypeId) (e : outParam TypeId) : Prop where
  out : P.underlying t = some (.pointer e)
class TyStr (P : Program) (t : TypeId) : Prop where
  out : P.underlying t = some .string
class TyFunc (P : Program) (t : TypeId) : Prop where
  out : ∃ a b c, P.underlying t = some (.func a b c)
class Fld (P : Program) (s : TypeId) (f : Nat) (off : outParam Nat) (ft : outParam TypeId) : Prop where
  out : ∃ fs fd i, P.underlying s = some (.struct fs) ∧ fs[f]? = some fd ∧ fd.offset = off ∧ fd.type = ft ∧ P.info? ft = some i ∧ i.size ≠ 0

/-! ## finding a block -/
class Find (b : Nat) (L : SH) (o : outParam Obj) : Prop where
  out : (b, o) ∈ L.flatten
instance (priority := 1100) Find.here {b : Nat} {L : SH} {o : Obj} : Find b ([(b, o)] :: L) o := ⟨by simp⟩
instance (priority := 900) Find.there {b : Nat} {c : List (Nat × Obj)} {L : SH} {o : Obj} [h : Find b L o] : Find b (c :: L) o := ⟨by
  simp only [List.flatten_cons, List.mem_append]; exact .inr h.out⟩

/-- `L` in which block `b` is turned -/
class Upd (b : Nat) (L : SH) (o : outParam Obj) (f : outParam (Obj → SH)) : Prop where
  out : ∃ pre post : SH, L = pre ++ [(b, o)] :: post ∧ ∀ o', f o' = pre ++ [(b, o')] :: post
instance (priority := 1100) Upd.here {b : Nat} {L : SH} {o : Obj} : Upd b ([(b, o)] :: L) o (fun o' => [(b, o')] :: L) := ⟨[], L, rfl, fun _ => rfl⟩
instance (priority := 900) Upd.there {b : Nat} {c : List (Nat × Obj)} {L : SH} {o : Obj} {f : Obj → SH} [h : Upd b L o f] : Upd b (c :: L) o (fun o' => c :: f o') := by
  obtain ⟨pre, post, h1, h2⟩ := h.out
  exact ⟨c :: pre, post, by simp [h1], fun o' => by simp [h2]⟩

/-- what is left of `L` behind a chunk that is taken out -/
class Rem (c : List (Nat × Obj)) (L : SH) (L' : outParam SH) : Prop where
  out : L.flatten.Perm (c ++ L'.flatten)
instance (priority := 1100) Rem.here {c : List (Nat × Obj)} {L : SH} : Rem c (c :: L) L := ⟨by simp⟩
instance (priority := 900) Rem.there {c d : List (Nat × Obj)} {L L' : SH} [h : Rem c L L'] : Rem c (d :: L) (d :: L') := ⟨by
  simp only [List.flatten_cons]
  refine (List.Perm.append_left d h.out).trans ?_
  rw [← List.append_assoc, ← List.append_assoc]
  exact List.Perm.append_right _ List.perm_append_comm⟩
class Take (L : SH) (Lf : SH) (R : outParam SH) : Prop where
  out : L.flatten.Perm (Lf ++ R).flatten
instance Take.nil {L : SH} : Take L [] L := ⟨by simp⟩
instance Take.cons {L L1 R Lf : SH} {c : List (Nat × Obj)} [h : Rem c L L1] [k : Take L1 Lf R] : Take L (c :: Lf) R := ⟨by
  refine h.out.trans ?_
  simp only [List.cons_append, List.flatten_cons]
  exact List.Perm.append_left c k.out⟩

theorem take_app' {L R : SH} : Take (L ++ R) L R := ⟨List.Perm.refl _⟩
theorem rem_app' {c : List (Nat × Obj)} {X L L' : SH} (h : Rem c L L') : Rem c (X ++ L) (X ++ L') := ⟨by
  simp only [List.flatten_append]
  refine (List.Perm.append_left _ h.out).trans ?_
  rw [← List.append_assoc, ← List.append_assoc]
  exact List.Perm.append_right _ List.perm_append_comm⟩
theorem take_all' {R : SH} : Take R R [] := ⟨by simp⟩
theorem take_skip' {L R G : SH} {c : List (Nat × Obj)} (h : Take L R G) : Take (c :: L) R (c :: G) := ⟨by
  simp only [List.flatten_cons, List.flatten_append]
  refine (List.Perm.append_left c h.out).trans ?_
  simp only [List.flatten_append]
  rw [← List.append_assoc, ← List.append_assoc]
  exact List.Perm.append_right _ List.perm_append_comm⟩
theorem rem_nil' {L : SH} : Rem [] L L := ⟨by simp⟩
theorem take_nil' {L : SH} : Take L [] L := Take.nil
theorem take_cons' {L L1 R Lf : SH} {c : List (Nat × Obj)} (h : Rem c L L1) (k : Take L1 Lf R) : Take L (c :: Lf) R := Take.cons
theorem rem_here' {c : List (Nat × Obj)} {L : SH} : Rem c (c :: L) L := Rem.here
theorem rem_there' {c d : List (Nat × Obj)} {L L' : SH} (h : Rem c L L') : Rem c (d :: L) (d :: L') := Rem.there
theorem flatten_mid {pre post : SH} {c : List (Nat × Obj)} : (pre ++ c :: post).flatten.Perm (c :: (pre ++ post)).flatten := by
  simp only [List.flatten_append, List.flatten_cons]
  rw [← List.append_assoc, ← List.append_assoc]
  exact List.Perm.append_right _ List.perm_append_comm

theorem Sat.upd {u ρ w} {b : Nat} {o : Obj} {L : SH} {f : Obj → SH} (h : Sat u ρ L w) (k : Upd b L o f) (o' : Obj) : Sat u ρ (f o') (putB w b o') ∧ w.heap[b]? = some o := by
  obtain ⟨pre, post, rfl, h2⟩ := k.out
  have h' := h.perm flatten_mid
  refine ⟨?_, h'.here (b, o) (by simp)⟩
  rw [h2]
  exact (h'.put o').perm flatten_mid.symm

theorem Sat.find {u ρ w} {b : Nat} {o : Obj} {L : SH} (h : Sat u ρ L w) (k : Find b L o) : w.heap[b]? = some o := h.here _ k.out

/-! ## quiet operations -/
def Yl (x : Cx) (op : Op) (ty : TypeId) (E : Env) (ρ : Hp) (L : SH) (v : Value) : Prop :=
  ∀ a w dst pos after guard, Ok x.D x.N E a → Sat x.u ρ L w → (execOp a.eval ⟨dst, op, ty, pos, after, guard⟩).run x.P w = .ok (.value v) w

def noDefer : Op → Bool
  | .defer _ => false
  | _ => true
theorem semAt_nd {ro : Option Nat} {r : Operand → Value} {o : Oper} (h : noDefer o.op = true) : o.semAt ro r = execOp r o :=
  Oper.semAt_eq ro r o fun c hc => by rw [hc] at h; cases h

section
variable {x : Cx} {Q : Exit → Act → World → Prop} {E : Env} {ρ : Hp} {L : SH} {ops : Array Oper} {rest : List Oper} {ty : TypeId} {pos : String} {af : Array Edge}

theorem Fw_fn (ro : Option Nat) (f : FuncId) : (Fw ro).fn f := trivial
theorem wpIn_intro {o : Oper} {a : Act} {w : World} {K : Act → World → Prop} (hn : noDefer o.op = true) (h : o.uponIn (Fw x.ro) 0 x.P a K Q ((execOp a.eval o).run x.P w)) : o.wpIn (Fw x.ro) 0 x.P a w K Q :=
  ⟨fun _ _ => trivial, by rw [semAt_nd hn]; exact h⟩
theorem wpListIn_intro {o : Oper} {a : Act} {w : World} (hg : o.guard = none) (hn : noDefer o.op = true)
    (h : o.uponIn (Fw x.ro) 0 x.P a (wpListIn (Fw x.ro) 0 x.P ops Q rest) Q ((execOp a.eval o).run x.P w)) : wpListIn (Fw x.ro) 0 x.P ops Q (o :: rest) a w := by
  simp only [wpListIn, Region.wanted, hg, if_true]
  exact wpIn_intro hn h

/-- a quiet operation -/
theorem tl_y {d : Nat} {op : Op} {v : Value} (hy : Yl x op ty E ρ L v) (hd : Nat.blt d x.N = true) (hn : noDefer op = true)
    (k : TL x ops rest Q ((d, v) :: E) ρ L) : TL x ops (⟨some d, op, ty, pos, af, none⟩ :: rest) Q E ρ L := fun a w ha hw => by
  refine wpListIn_intro rfl hn ?_
  rw [hy a w _ _ _ _ ha hw]
  exact k _ _ (ha.put (Nat.le_of_ble_eq_true hd) v) hw

/-- a guarded operation that is wanted -/
theorem tl_want {d : Option Nat} {op : Op} {j t : Nat} {b : Bool} (hj : (ops[j]?).bind (·.dst) = some t) (he : lk E t = some (.bool b))
    (k : TL x ops (⟨d, op, ty, pos, af, none⟩ :: rest) Q E ρ L) : TL x ops (⟨d, op, ty, pos, af, some (j, b)⟩ :: rest) Q E ρ L := fun a w ha hw => by
  have hy : yielded ops a.tmps j = some b := by
    unfold yielded
    rw [hj]
    simp [ha.get t _ he]
  have h := k a w ha hw
  simp only [wpListIn, Region.wanted, hy, if_true] at h
  simp only [wpListIn, Region.wanted, hy, beq_self_eq_true, if_true]
  exact h
theorem tl_skip {d : Nat} {op : Op} {j t : Nat} {b c : Bool} (hj : (ops[j]?).bind (·.dst) = some t) (he : lk E t = some (.bool b)) (hbc : (b == c) = false) (hd : Nat.blt d x.N = true)
    (k : TL x ops rest Q ((d, undef) :: E) ρ L) : TL x ops (⟨some d, op, ty, pos, af, some (j, c)⟩ :: rest) Q E ρ L := fun a w ha hw => by
  have hy : yielded ops a.tmps j = some b := by
    unfold yielded
    rw [hj]
    simp [ha.get t _ he]
  have hne : ¬ (some b == some c) = true := by cases b <;> cases c <;> simp_all
  simp only [wpListIn, Region.wanted, hy, hne]
  exact ⟨fun _ _ => trivial, k _ _ (ha.put (Nat.le_of_ble_eq_true hd) undef) hw⟩
theorem tl_skip0 {op : Op} {j t : Nat} {b c : Bool} (hj : (ops[j]?).bind (·.dst) = some t) (he : lk E t = some (.bool b)) (hbc : (b == c) = false)
    (k : TL x ops rest Q E ρ L) : TL x ops (⟨none, op, ty, pos, af, some (j, c)⟩ :: rest) Q E ρ L := fun a w ha hw => by
  have hy : yielded ops a.tmps j = some b := by
    unfold yielded
    rw [hj]
    simp [ha.get t _ he]
  have hne : ¬ (some b == some c) = true := by cases b <;> cases c <;> simp_all
  simp only [wpListIn, Region.wanted, hy, hne]
  exact ⟨fun _ _ => trivial, k a w ha hw⟩
/-- a guard that is not known: both ways, the boolean written out from then on -/
theorem tl_guard {d : Option Nat} {op : Op} {j t : Nat} {b c : Bool} (hj : (ops[j]?).bind (·.dst) = some t) (he : lk E t = some (.bool b))
    (h1 : b = c → TL x ops (⟨d, op, ty, pos, af, some (j, c)⟩ :: rest) Q ((t, .bool c) :: E) ρ L)
    (h2 : b = !c → TL x ops (⟨d, op, ty, pos, af, some (j, c)⟩ :: rest) Q ((t, .bool !c) :: E) ρ L) :
    TL x ops (⟨d, op, ty, pos, af, some (j, c)⟩ :: rest) Q E ρ L := fun a w ha hw => by
  have key : ∀ e : Bool, b = e → Ok x.D x.N ((t, .bool e) :: E) a := fun e hbe => ha.le (EnvLe.cons (by rw [he, hbe]) (EnvLe.refl E))
  by_cases hb : b = c
  · exact h1 hb a w (key c hb) hw
  · have hb' : b = !c := by cases b <;> cases c <;> simp_all
    exact h2 hb' a w (key _ hb') hw

/-! ### which they are -/
theorem y_move {o : Operand} {v : Value} (h : ev E o = some v) : Yl x (.move o) ty E ρ L v := fun a w _ _ _ _ ha _ => by
  simp [execOp, ha.eval h]
theorem y_assign {o : Operand} {v : Value} (h : ev E o = some v) : Yl x (.assign o) ty E ρ L v := fun a w _ _ _ _ ha _ => by
  simp [execOp, ha.eval h]
theorem y_pick_t {c p q : Operand} {v : Value} (hc : ev E c = some (.bool true)) (h : ev E p = some v) : Yl x (.pick c p q) ty E ρ L v := fun a w _ _ _ _ ha _ => by
  simp [execOp, ha.eval h, ha.eval hc, asBool]
theorem y_pick_f {c p q : Operand} {v : Value} (hc : ev E c = some (.bool false)) (h : ev E q = some v) : Yl x (.pick c p q) ty E ρ L v := fun a w _ _ _ _ ha _ => by
  simp [execOp, ha.eval h, ha.eval hc, asBool]
theorem y_nilCheck {o : Operand} {p : Addr} (h : ev E o = some (.pointer (some p))) : Yl x (.nilCheck o) ty E ρ L (.pointer (some p)) := fun a w _ _ _ _ ha _ => by
  simp [execOp, ha.eval h]
theorem y_nilCheck_f {o : Operand} {f : FuncId} {p q : Array Value} (h : ev E o = some (.func (.func f) p q)) : Yl x (.nilCheck o) ty E ρ L (.func (.func f) p q) := fun a w _ _ _ _ ha _ => by
  simp [execOp, ha.eval h]
theorem y_nilCheck_y {o : Operand} {l : Nat} {p q : Array Value} (h : ev E o = some (.func (.yield l) p q)) : Yl x (.nilCheck o) ty E ρ L (.func (.yield l) p q) := fun a w _ _ _ _ ha _ => by
  simp [execOp, ha.eval h]
theorem y_extract {o : Operand} {i : Nat} {vs : List Value} {v : Value} (h : ev E o = some (.tuple ⟨vs⟩)) (hv : vs[i]? = some v) : Yl x (.extract o i) ty E ρ L v := fun a w _ _ _ _ ha _ => by
  simp [execOp, ha.eval h, Instr.extract, hv]
theorem y_makeFunc {fn : Fn} {p q : List Operand} {vs us : List Value} (h : evs E p = some vs) (k : evs E q = some us) :
    Yl x (.makeFunc fn ⟨p⟩ ⟨q⟩) ty E ρ L (.func fn ⟨vs⟩ ⟨us⟩) := fun a w _ _ _ _ ha _ => by
  have e1 : Array.map a.eval (⟨p⟩ : Array Operand) = ⟨vs⟩ := by rw [List.map_toArray, ha.evals h]
  have e2 : Array.map a.eval (⟨q⟩ : Array Operand) = ⟨us⟩ := by rw [List.map_toArray, ha.evals k]
  simp [execOp, Instr.makeFunc, e1, e2]
theorem y_not {o : Operand} {t : TypeId} {b : Bool} (h : ev E o = some (.bool b)) : Yl x (.unOp .not t o) ty E ρ L (.bool (!b)) := fun a w _ _ _ _ ha _ => by
  simp [execOp, ha.eval h, Op.unary]

/-! loads -/
theorem run_loadAt_row {w : World} {P : Program} {b : Nat} {l : List Value} {T : TypeId} {fr : Nat × Nat} {t n off : Nat} (hA : TyA P t n) (hb : w.heap[b]? = some (.cells ⟨l⟩ T fr)) (hn : off + n ≤ l.length) :
    (Instr.loadAt t (.pointer (some ⟨b, off, none⟩))).run P w = .ok (.agg ⟨(l.drop off).take n⟩) w := by
  obtain ⟨d, i, h1, h2, h3, h4⟩ := hA.out
  have hl := run_loadCells_list (P := P) w ⟨b, off, none⟩ ((l.drop off).take n) (fun j v hj => by
    have hj' : j < n := by have := (List.getElem?_eq_some_iff.1 hj).1; simp at this; omega
    have e : (⟨b, off, none⟩ : Addr).add j = ⟨b, off + j, none⟩ := by unfold Addr.add; split <;> simp_all
    rw [e]
    simp only [World.cell?, hb, Option.isSome_none, Bool.false_eq_true, if_false]
    rw [List.getElem?_take_of_lt hj', List.getElem?_drop] at hj
    simpa using hj)
  have hlen : ((l.drop off).take n).length = n := by simp; omega
  rw [hlen] at hl
  have ha : (isAgg t).run P w = .ok true w := by
    simp only [isAgg, underlying, Sem.run_bind, run_program, Result.andThen_ok, h1, Sem.run_pure]
    cases d <;> simp_all
  simp only [Instr.loadAt, Instr.sureAddr, loadVar, Sem.run_bind, Sem.run_pure, Result.andThen_ok, ha, if_true, sizeOf, typeInfo, run_program, h3, h4, hl]

theorem run_loadAt_cell {w : World} {P : Program} {b : Nat} {C : Array Value} {T : TypeId} {fr : Nat × Nat} {t off : Nat} {v : Value} (hA : TyS P t) (hb : w.heap[b]? = some (.cells C T fr)) (hn : C[off]? = some v) :
    (Instr.loadAt t (.pointer (some ⟨b, off, none⟩))).run P w = .ok v w := by
  obtain ⟨d, i, h1, h2, h3, h4⟩ := hA.out
  have ha : (isAgg t).run P w = .ok false w := by
    simp only [isAgg, underlying, Sem.run_bind, run_program, Result.andThen_ok, h1, Sem.run_pure]
    cases d <;> simp_all
  have hc : w.cell? ⟨b, off, none⟩ = some v := by simp [World.cell?, hb, hn]
  simp [Instr.loadAt, Instr.sureAddr, loadVar, ha, hc]

theorem y_load_s {o : Operand} {t b off : Nat} {C : List Value} {T : TypeId} {fr : Nat × Nat} {v : Value} (h : ev E o = some (.pointer (some ⟨b, off, none⟩))) [hA : TyS x.P t] [hF : Find b L (.cells ⟨C⟩ T fr)] (hc : C[off]? = some v) :
    Yl x (.load t o) ty E ρ L v := fun a w _ _ _ _ ha hw => by
  simp [execOp, ha.eval h, run_loadAt_cell hA (hw.find hF) (v := v) (by simpa using hc)]
theorem y_load_a {o : Operand} {t b n : Nat} {l : List Value} {T : TypeId} {fr : Nat × Nat} (h : ev E o = some (.pointer (some ⟨b, 0, none⟩))) [hA : TyA x.P t n] [hF : Find b L (.cells ⟨l⟩ T fr)] (hn : l.length = n) :
    Yl x (.load t o) ty E ρ L (.agg ⟨l⟩) := fun a w _ _ _ _ ha hw => by
  have := run_loadAt_row (off := 0) hA (hw.find hF) (by omega)
  rw [List.drop_zero, List.take_of_length_le (by omega)] at this
  simp [execOp, ha.eval h, this]
theorem y_load_part {o : Operand} {t b off n : Nat} {l m : List Value} {T : TypeId} {fr : Nat × Nat} (h : ev E o = some (.pointer (some ⟨b, off, none⟩))) [hA : TyA x.P t n] [hF : Find b L (.cells ⟨l⟩ T fr)] (hn : off + n ≤ l.length)
    (hm : (l.drop off).take n = m) : Yl x (.load t o) ty E ρ L (.agg ⟨m⟩) := fun a w _ _ _ _ ha hw => by
  have := run_loadAt_row (off := off) hA (hw.find hF) hn
  rw [hm] at this
  simp [execOp, ha.eval h, this]
theorem y_load_is {o : Operand} {t b off : Nat} {C : List Value} {T : TypeId} {fr : Nat × Nat} {v : Value} (h : ev E o = some (.pointer (some ⟨b, off, none⟩))) [hA : TyS x.P t] (hF : ρ b = some (.cells ⟨C⟩ T fr)) (hc : C[off]? = some v) :
    Yl x (.load t o) ty E ρ L v := fun a w _ _ _ _ ha hw => by
  simp [execOp, ha.eval h, run_loadAt_cell hA (hw.imm _ _ hF) (v := v) (by simpa using hc)]
theorem y_load_ipart {o : Operand} {t b off n : Nat} {l m : List Value} {T : TypeId} {fr : Nat × Nat} (h : ev E o = some (.pointer (some ⟨b, off, none⟩))) [hA : TyA x.P t n] (hF : ρ b = some (.cells ⟨l⟩ T fr)) (hn : off + n ≤ l.length)
    (hm : (l.drop off).take n = m) : Yl x (.load t o) ty E ρ L (.agg ⟨m⟩) := fun a w _ _ _ _ ha hw => by
  have := run_loadAt_row (off := off) hA (hw.imm _ _ hF) hn
  rw [hm] at this
  simp [execOp, ha.eval h, this]

/-! addresses -/
theorem addr_add (b o n : Nat) : (⟨b, o, none⟩ : Addr).add n = ⟨b, o + n, none⟩ := by unfold Addr.add; split <;> simp_all
theorem y_fieldAddr {o : Operand} {s f b off d ft : Nat} (h : ev E o = some (.pointer (some ⟨b, off, none⟩))) [hF : Fld x.P s f d ft] : Yl x (.fieldAddr s o f) ty E ρ L (.pointer (some ⟨b, off + d, none⟩)) := fun a w _ _ _ _ ha hw => by
  obtain ⟨fs, fd, i, h1, h2, h3, h4, h5, h6⟩ := hF.out
  simp [execOp, ha.eval h, Instr.fieldAt, underlying, h1, h2, Instr.sureAddr, fieldPlace, sizeOf, typeInfo, h4, h5, h6, h3, addr_add]
theorem y_indexAddr {o i : Operand} {t e sz b off len cap : Nat} {k : IntKind} {n : Int} (h : ev E o = some (.slice (some ⟨b, off, none⟩) len cap)) (hi : ev E i = some (.int k n)) [hS : TySlice x.P t e] [hZ : TySz x.P e sz] (h0 : 0 ≤ n) (h1 : n < len) :
    Yl x (.indexAddr t o i) ty E ρ L (.pointer (some ⟨b, off + n.toNat * sz, none⟩)) := fun a w _ _ _ _ ha hw => by
  obtain ⟨inf, g1, g2⟩ := hZ.out
  simp [execOp, ha.eval h, ha.eval hi, Instr.indexAt, asIntOf, underlying, hS.out, h0, h1, sizeOf, typeInfo, g1, g2, addr_add]
theorem y_indexAddr_arr {o i : Operand} {t len e sz b off : Nat} {k : IntKind} {n : Int} (h : ev E o = some (.pointer (some ⟨b, off, none⟩))) (hi : ev E i = some (.int k n)) [hS : TyArr x.P t len e] [hZ : TySz x.P e sz] (h0 : 0 ≤ n) (h1 : n < len) :
    Yl x (.indexAddr t o i) ty E ρ L (.pointer (some ⟨b, off + n.toNat * sz, none⟩)) := fun a w _ _ _ _ ha hw => by
  obtain ⟨inf, g1, g2⟩ := hZ.out
  simp [execOp, ha.eval h, ha.eval hi, Instr.indexAt, asIntOf, underlying, hS.out, h0, h1, sizeOf, typeInfo, g1, g2, addr_add, Instr.sureAddr]
theorem y_field_s {o : Operand} {s f d ft : Nat} {C : List Value} {v : Value} (h : ev E o = some (.agg ⟨C⟩)) [hF : Fld x.P s f d ft] [hT : TyS x.P ft] (hc : C[d]? = some v) : Yl x (.field s o f) ty E ρ L v := fun a w _ _ _ _ ha hw => by
  obtain ⟨fs, fd, i, h1, h2, h3, h4, h5, h6⟩ := hF.out
  obtain ⟨de, i', g1, g2, g3, g4⟩ := hT.out
  have hag : (isAgg ft).run x.P w = .ok false w := by
    simp only [isAgg, underlying, Sem.run_bind, run_program, Result.andThen_ok, g1, Sem.run_pure]
    cases de <;> simp_all
  simp [execOp, ha.eval h, Instr.field, underlying, h1, h2, asAgg, part, h4, hag, h3, hc]
theorem y_field_a {o : Operand} {s f d ft n : Nat} {l : List Value} (h : ev E o = some (.agg ⟨l⟩)) [hF : Fld x.P s f d ft] [hT : TyA x.P ft n] {m : List Value} (hm : (l.drop d).take n = m) : Yl x (.field s o f) ty E ρ L (.agg ⟨m⟩) := fun a w _ _ _ _ ha hw => by
  obtain ⟨fs, fd, i, h1, h2, h3, h4, h5, h6⟩ := hF.out
  obtain ⟨de, i', g1, g2, g3, g4⟩ := hT.out
  have hag : (isAgg ft).run x.P w = .ok true w := by
    simp only [isAgg, underlying, Sem.run_bind, run_program, Result.andThen_ok, g1, Sem.run_pure]
    cases de <;> simp_all
  simp [execOp, ha.eval h, Instr.field, underlying, h1, h2, asAgg, part, h4, hag, h3, sizeOf, typeInfo, g3, g4, hm]

/-! numbers -/
def lo : IntKind → Int
  | .i8 => -128 | .i16 => -32768 | .i32 => -2147483648 | .i64 => -9223372036854775808 | _ => 0
def hi : IntKind → Int
  | .i8 => 127 | .i16 => 32767 | .i32 => 2147483647 | .i64 => 9223372036854775807 | .u8 => 255 | .u16 => 65535 | .u32 => 4294967295 | .u64 => 18446744073709551615
theorem wrap_id {k : IntKind} {n : Int} (h : lo k ≤ n ∧ n ≤ hi k) : k.wrap n = n := by
  obtain ⟨h1, h2⟩ := h
  cases k <;> simp only [lo, hi] at h1 h2 <;> simp only [IntKind.wrap, IntKind.bits, IntKind.signed, Bool.true_and, Bool.false_and, Bool.false_eq_true, if_false] <;> (try split) <;> simp_all <;> omega
theorem y_add_w {p q : Operand} {t t' : TypeId} {k : IntKind} {m n : Int} (h1 : ev E p = some (.int k m)) (h2 : ev E q = some (.int k n)) : Yl x (.binOp .add t p q t') ty E ρ L (.int k (k.wrap (m + n))) := fun a w _ _ _ _ ha _ => by
  simp [execOp, ha.eval h1, ha.eval h2, eqGuard, binOp, Op.intArith]
theorem y_add {p q : Operand} {t t' : TypeId} {k : IntKind} {m n : Int} (h1 : ev E p = some (.int k m)) (h2 : ev E q = some (.int k n)) (h : lo k ≤ m + n ∧ m + n ≤ hi k) : Yl x (.binOp .add t p q t') ty E ρ L (.int k (m + n)) := by
  have := y_add_w (x := x) (E := E) (ρ := ρ) (L := L) (ty := ty) (t := t) (t' := t') h1 h2
  rwa [wrap_id h] at this
theorem y_sub_w {p q : Operand} {t t' : TypeId} {k : IntKind} {m n : Int} (h1 : ev E p = some (.int k m)) (h2 : ev E q = some (.int k n)) : Yl x (.binOp .sub t p q t') ty E ρ L (.int k (k.wrap (m - n))) := fun a w _ _ _ _ ha _ => by
  simp [execOp, ha.eval h1, ha.eval h2, eqGuard, binOp, Op.intArith]
theorem y_sub {p q : Operand} {t t' : TypeId} {k : IntKind} {m n : Int} (h1 : ev E p = some (.int k m)) (h2 : ev E q = some (.int k n)) (h : lo k ≤ m - n ∧ m - n ≤ hi k) : Yl x (.binOp .sub t p q t') ty E ρ L (.int k (m - n)) := by
  have := y_sub_w (x := x) (E := E) (ρ := ρ) (L := L) (ty := ty) (t := t) (t' := t') h1 h2
  rwa [wrap_id h] at this
theorem y_mul_w {p q : Operand} {t t' : TypeId} {k : IntKind} {m n : Int} (h1 : ev E p = some (.int k m)) (h2 : ev E q = some (.int k n)) : Yl x (.binOp .mul t p q t') ty E ρ L (.int k (k.wrap (m * n))) := fun a w _ _ _ _ ha _ => by
  simp [execOp, ha.eval h1, ha.eval h2, eqGuard, binOp, Op.intArith]
theorem y_mul {p q : Operand} {t t' : TypeId} {k : IntKind} {m n : Int} (h1 : ev E p = some (.int k m)) (h2 : ev E q = some (.int k n)) (h : lo k ≤ m * n ∧ m * n ≤ hi k) : Yl x (.binOp .mul t p q t') ty E ρ L (.int k (m * n)) := by
  have := y_mul_w (x := x) (E := E) (ρ := ρ) (L := L) (ty := ty) (t := t) (t' := t') h1 h2
  rwa [wrap_id h] at this
theorem y_rem {p q : Operand} {t t' : TypeId} {k : IntKind} {m n : Int} (h1 : ev E p = some (.int k m)) (h2 : ev E q = some (.int k n)) (hn : n ≠ 0) : Yl x (.binOp .rem t p q t') ty E ρ L (.int k (m.tmod n)) := fun a w _ _ _ _ ha _ => by
  simp [execOp, ha.eval h1, ha.eval h2, eqGuard, binOp, Op.intDiv, hn]
theorem y_quo_w {p q : Operand} {t t' : TypeId} {k : IntKind} {m n : Int} (h1 : ev E p = some (.int k m)) (h2 : ev E q = some (.int k n)) (hn : n ≠ 0) : Yl x (.binOp .quo t p q t') ty E ρ L (.int k (k.wrap (m.tdiv n))) := fun a w _ _ _ _ ha _ => by
  simp [execOp, ha.eval h1, ha.eval h2, eqGuard, binOp, Op.intDiv, hn]
def cmpB : BinOp → Int → Int → Option Bool
  | .eql, a, b => some (a == b) | .neq, a, b => some (a != b) | .lss, a, b => some (a < b) | .leq, a, b => some (a ≤ b) | .gtr, a, b => some (a > b) | .geq, a, b => some (a ≥ b)
  | _, _, _ => none
theorem y_cmp {o : BinOp} {p q : Operand} {t t' : TypeId} {k : IntKind} {m n : Int} {b : Bool} (h1 : ev E p = some (.int k m)) (h2 : ev E q = some (.int k n)) (hb : cmpB o m n = some b) : Yl x (.binOp o t p q t') ty E ρ L (.bool b) := fun a w _ _ _ _ ha _ => by
  cases o <;> simp [cmpB] at hb <;> subst hb <;> simp [execOp, ha.eval h1, ha.eval h2, eqGuard, binOp, Op.intCmp]
theorem y_conv {p : Operand} {s t : TypeId} {k k' : IntKind} {n : Int} (h : ev E p = some (.int k' n)) [hk : TyInt x.P t k] [hs : TyInt x.P s k'] : Yl x (.convert s t p) ty E ρ L (.int k (k.wrap n)) := fun a w _ _ _ _ ha _ => by
  simp [execOp, ha.eval h, convert, underlying, hk.out, hs.out, Conv.intToInt]
theorem y_len {p : Operand} {t e : TypeId} {s : Option Addr} {n c : Nat} [hS : TySlice x.P t e] (h : ev E p = some (.slice s n c)) : Yl x (.call { callee := .builtin .len, args := #[p], argTypes := #[t] }) ty E ρ L (.int .i64 n) := fun a w _ _ _ _ ha _ => by
  simp [execOp, ha.eval h, resolve, invoke, builtin, Builtin.len_, underlying, hS.out, goInt]

theorem y_max {p q : Operand} {ats : Array TypeId} {k k' : IntKind} {m n : Int} (h1 : ev E p = some (.int k m)) (h2 : ev E q = some (.int k' n)) : Yl x (.call { callee := .builtin .max, args := #[p, q], argTypes := ats }) ty E ρ L (.int k (max m n)) := fun a w _ _ _ _ ha _ => by
  have : (if n > m then n else m) = max m n := by omega
  simp [execOp, ha.eval h1, ha.eval h2, resolve, invoke, builtin, Builtin.max_, Builtin.max2]
  omega
theorem y_min {p q : Operand} {ats : Array TypeId} {k k' : IntKind} {m n : Int} (h1 : ev E p = some (.int k m)) (h2 : ev E q = some (.int k' n)) : Yl x (.call { callee := .builtin .min, args := #[p, q], argTypes := ats }) ty E ρ L (.int k (min m n)) := fun a w _ _ _ _ ha _ => by
  simp [execOp, ha.eval h1, ha.eval h2, resolve, invoke, builtin, Builtin.min_, Builtin.min2]
  omega
/-! pointers and functions against nil; equal blocks -/
theorem run_equal_ptr_nil {P : Program} {t e : TypeId} (hP : TyPtr P t e) (s : Option Addr) (w : World) : (Op.equal t (.pointer s) (.pointer none)).run P w = .ok s.isNone w := by
  have hd : Op.maxDepth = 9999 + 1 := rfl
  rw [Op.equal, hd, Op.equalIn]
  simp only [Sem.run_bind, underlying, run_program, Result.andThen_ok, hP.out, Sem.run_pure]
  cases s <;> rfl
theorem run_equal_nil_ptr {P : Program} {t e : TypeId} (hP : TyPtr P t e) (s : Option Addr) (w : World) : (Op.equal t (.pointer none) (.pointer s)).run P w = .ok s.isNone w := by
  have hd : Op.maxDepth = 9999 + 1 := rfl
  rw [Op.equal, hd, Op.equalIn]
  simp only [Sem.run_bind, underlying, run_program, Result.andThen_ok, hP.out, Sem.run_pure]
def isFuncB : Value → Option Bool
  | .nilFunc => some false
  | .func _ _ _ => some true
  | _ => none
theorem run_equal_func_nil {P : Program} {t : TypeId} (hP : TyFunc P t) {v : Value} {c : Bool} (hv : isFuncB v = some c) (w : World) : (Op.equal t v .nilFunc).run P w = .ok (!c) w := by
  have hd : Op.maxDepth = 9999 + 1 := rfl
  obtain ⟨f1, f2, f3, hf⟩ := hP.out
  rw [Op.equal, hd, Op.equalIn]
  simp only [Sem.run_bind, underlying, run_program, Result.andThen_ok, hf, Sem.run_pure]
  cases v <;> simp [isFuncB] at hv <;> subst hv <;> rfl
def eqB : BinOp → Bool → Option Bool
  | .eql, b => some b
  | .neq, b => some (!b)
  | _, _ => none
/-- how '==' and '!=' go, once the equality's run is known (no integer, float, string) -/
def plainEq : Value → Bool
  | .int _ _ | .float _ _ | .complex _ _ _ | .string _ | .nilIface | .agg _ => false
  | _ => true
theorem y_eq {o : BinOp} {p q : Operand} {t t' : TypeId} {u v : Value} {b c : Bool} (h1 : ev E p = some u) (h2 : ev E q = some v) (hu : plainEq u = true) (hr : ∀ w, (Op.equal t u v).run x.P w = .ok c w)
    (hb : eqB o c = some b) : Yl x (.binOp o t p q t') ty E ρ L (.bool b) := fun a w _ _ _ _ ha _ => by
  have hg : (eqGuard o t p q u v).run x.P w = .ok () w := by
    cases o <;> simp [eqB] at hb <;> cases u <;> simp [plainEq] at hu <;> simp [eqGuard]
  have hbin : (binOp o t u v).run x.P w = .ok (.bool b) w := by
    cases o <;> simp only [eqB, Option.some.injEq, reduceCtorEq] at hb <;> subst hb <;> cases u <;> simp only [plainEq, Bool.false_eq_true] at hu <;> simp only [binOp, Sem.run_bind, hr, Result.andThen_ok, Sem.run_pure]
  simp only [execOp, ha.eval h1, ha.eval h2, Sem.run_bind, hg, Result.andThen_ok, hbin, Sem.run_pure]
theorem y_ptr_nil {o : BinOp} {p q : Operand} {t t' e : TypeId} {s : Option Addr} {b : Bool} [hP : TyPtr x.P t e] (h1 : ev E p = some (.pointer s)) (h2 : ev E q = some (.pointer none))
    (hb : eqB o s.isNone = some b) : Yl x (.binOp o t p q t') ty E ρ L (.bool b) :=
  y_eq h1 h2 rfl (fun w => run_equal_ptr_nil hP s w) hb
theorem y_func_nil {o : BinOp} {p q : Operand} {t t' : TypeId} {v : Value} {b c : Bool} [hP : TyFunc x.P t] (h1 : ev E p = some v) (h2 : ev E q = some .nilFunc) (hv : isFuncB v = some c)
    (hb : eqB o (!c) = some b) : Yl x (.binOp o t p q t') ty E ρ L (.bool b) :=
  y_eq h1 h2 (by cases v <;> simp [isFuncB] at hv <;> rfl) (fun w => run_equal_func_nil hP hv w) hb
end
end Go.Proofs.E

namespace Go.Proofs.E
open Go
set_option linter.unusedVariables false
set_option linter.unusedSimpArgs false

section
variable {x : Cx} {Q : Exit → Act → World → Prop} {E : Env} {ρ : Hp} {L : SH} {ops : Array Oper} {rest : List Oper} {ty : TypeId} {pos : String} {af : Array Edge}

/-! ## new blocks -/
theorem run_zeroValue {P : Program} {t : TypeId} {z : Value} (h : TyZero P t z) (w : World) : (zeroValue t).run P w = .ok z w := by
  obtain ⟨i, h1, h2⟩ := h.out
  simp [zeroValue, typeInfo, h1, h2]

/-- an operation that lays one new block -/
theorem tl_new {d : Nat} {op : Op} {o : Obj} {g : Nat → Value} (hr : ∀ a w, Ok x.D x.N E a → Sat x.u ρ L w → (execOp a.eval ⟨some d, op, ty, pos, af, none⟩).run x.P w = .ok (.value (g w.heap.size)) { w with heap := w.heap.push o })
    (hd : Nat.blt d x.N = true) (hn : noDefer op = true) (k : ∀ b, TL x ops rest Q ((d, g b) :: E) ρ ([(b, o)] :: L)) :
    TL x ops (⟨some d, op, ty, pos, af, none⟩ :: rest) Q E ρ L := fun a w ha hw => by
  refine wpListIn_intro rfl hn ?_
  rw [hr a w ha hw]
  exact k _ _ _ (ha.put (Nat.le_of_ble_eq_true hd) _) (hw.new o)

theorem tl_alloc {d t : Nat} {z : Value} [hz : TyZero x.P t z] (hd : Nat.blt d x.N = true) (k : ∀ b, TL x ops rest Q ((d, .pointer (some ⟨b, 0, none⟩)) :: E) ρ ([(b, .cells z.cells t (0, 0))] :: L)) :
    TL x ops (⟨some d, .alloc t, ty, pos, af, none⟩ :: rest) Q E ρ L :=
  tl_new (g := fun b => .pointer (some ⟨b, 0, none⟩)) (fun a w ha hw => by simp [execOp, Instr.alloc, run_zeroValue hz, newVar, newRow]) hd rfl k
theorem tl_box {d t : Nat} {o : Operand} {v : Value} (h : ev E o = some v) (hd : Nat.blt d x.N = true) (k : ∀ b, TL x ops rest Q ((d, .pointer (some ⟨b, 0, none⟩)) :: E) ρ ([(b, .cells v.cells t (0, 0))] :: L)) :
    TL x ops (⟨some d, .box t o, ty, pos, af, none⟩ :: rest) Q E ρ L :=
  tl_new (g := fun b => .pointer (some ⟨b, 0, none⟩)) (fun a w ha hw => by simp [execOp, Instr.box, newVar, newRow, ha.eval h]) hd rfl k
theorem cells_one {v : Value} (h : v.oneCell' = true) : v.cells = ⟨[v]⟩ := by cases v <;> simp_all [Value.oneCell', Value.cells]
theorem tl_alloc_s {d t : Nat} {z : Value} [hz : TyZero x.P t z] (h : z.oneCell' = true) (hd : Nat.blt d x.N = true) (k : ∀ b, TL x ops rest Q ((d, .pointer (some ⟨b, 0, none⟩)) :: E) ρ ([(b, .cells ⟨[z]⟩ t (0, 0))] :: L)) :
    TL x ops (⟨some d, .alloc t, ty, pos, af, none⟩ :: rest) Q E ρ L := tl_alloc hd (by rw [cells_one h]; exact k)
theorem tl_alloc_a {d t : Nat} {l : List Value} [hz : TyZero x.P t (.agg ⟨l⟩)] (hd : Nat.blt d x.N = true) (k : ∀ b, TL x ops rest Q ((d, .pointer (some ⟨b, 0, none⟩)) :: E) ρ ([(b, .cells ⟨l⟩ t (0, 0))] :: L)) :
    TL x ops (⟨some d, .alloc t, ty, pos, af, none⟩ :: rest) Q E ρ L := tl_alloc (z := .agg ⟨l⟩) hd k
theorem tl_box_s {d t : Nat} {o : Operand} {v : Value} (h : ev E o = some v) (h1 : v.oneCell' = true) (hd : Nat.blt d x.N = true) (k : ∀ b, TL x ops rest Q ((d, .pointer (some ⟨b, 0, none⟩)) :: E) ρ ([(b, .cells ⟨[v]⟩ t (0, 0))] :: L)) :
    TL x ops (⟨some d, .box t o, ty, pos, af, none⟩ :: rest) Q E ρ L := tl_box h hd (by rw [cells_one h1]; exact k)
theorem tl_box_a {d t : Nat} {o : Operand} {l : List Value} (h : ev E o = some (.agg ⟨l⟩)) (hd : Nat.blt d x.N = true) (k : ∀ b, TL x ops rest Q ((d, .pointer (some ⟨b, 0, none⟩)) :: E) ρ ([(b, .cells ⟨l⟩ t (0, 0))] :: L)) :
    TL x ops (⟨some d, .box t o, ty, pos, af, none⟩ :: rest) Q E ρ L := tl_box (v := .agg ⟨l⟩) h hd k
theorem tl_makeMap {d t : Nat} (hd : Nat.blt d x.N = true) (k : ∀ b, TL x ops rest Q ((d, .map (some b)) :: E) ρ ([(b, .map ⟨[]⟩ 0)] :: L)) :
    TL x ops (⟨some d, .makeMap t none, ty, pos, af, none⟩ :: rest) Q E ρ L :=
  tl_new (g := fun b => .map (some b)) (fun a w ha hw => by simp [execOp, Instr.makeMap]) hd rfl k
theorem tl_makeSlice {d t e sz by' : Nat} {l c : Operand} {kl kc : IntKind} {m n : Int} {z : Value} [hS : TySlice x.P t e] [hZ : TySz x.P e sz] [hB : TyBytes x.P e by'] [hz : TyZero x.P e z] (hl : ev E l = some (.int kl m)) (hc : ev E c = some (.int kc n))
    (h0 : 0 ≤ m) (h1 : m ≤ n) (h2 : (by' : Int) * n ≤ 281474976710656) (h3 : n ≤ 9223372036854775807) (hd : Nat.blt d x.N = true)
    (k : ∀ b, TL x ops rest Q ((d, .slice (some ⟨b, 0, none⟩) m.toNat n.toNat) :: E) ρ ([(b, .cells (madeCells z.cells (n.toNat * sz)) e (0, 0))] :: L)) :
    TL x ops (⟨some d, .makeSlice t l c, ty, pos, af, none⟩ :: rest) Q E ρ L :=
  tl_new (g := fun b => .slice (some ⟨b, 0, none⟩) m.toNat n.toNat) (fun a w ha hw => by
    obtain ⟨i, g1, g2⟩ := hZ.out
    obtain ⟨i2, g3, g4⟩ := hB.out
    obtain ⟨i3, g5, g6⟩ := hz.out
    rw [g1] at g3 g5
    cases g3; cases g5
    have := run_make (P := x.P) w t e i z hS.out g1 g6 kl kc m n h0 h1 (by rw [g4]; exact h2) h3
    simp only [execOp, ha.eval hl, ha.eval hc, Sem.run_bind, this, Result.andThen_ok, Sem.run_pure, g2]
    rfl) hd rfl k

/-! building values -/
theorem evsP {D N E a} (h : Ok D N E a) {ps : List (Nat × Operand)} {vs : List Value} (hv : evs E (ps.map (·.2)) = some vs) : (ps.map fun p => (p.1, a.eval p.2)) = (ps.map (·.1)).zip vs := by
  have := h.evals hv
  rw [← this]
  clear this hv
  induction ps with
  | nil => rfl
  | cons p r ih => simp [ih]
class TyPlaces (P : Program) (t : TypeId) (f : outParam (Nat → Option (Nat × Nat))) : Prop where
  out : (∃ fs, P.underlying t = some (.struct fs) ∧ ∃ ps : Array (Nat × Nat), (∀ w, (fs.mapM fun f => do pure (f.offset, ← sizeOf f.type) : Sem (Array (Nat × Nat))).run P w = .ok ps w) ∧ f = (ps[·]?)) ∨
    (∃ n e sz, P.underlying t = some (.array n e) ∧ (∀ w, (sizeOf e).run P w = .ok sz w) ∧ f = fun i => some (i * sz, sz))
theorem y_build {t : Nat} {f : Nat → Option (Nat × Nat)} {z : Value} {ps : List (Nat × Operand)} {vs : List Value} {cells : Array Value} [hP : TyPlaces x.P t f] [hz : TyZero x.P t z] (hv : evs E (ps.map (·.2)) = some vs)
    (hf : Instr.fill f z.cells ((ps.map (·.1)).zip vs) = some cells) : Yl x (.build t ⟨ps⟩) ty E ρ L (.agg cells) := fun a w _ _ _ _ ha _ => by
  have e : Array.map (fun (p : Nat × Operand) => (p.1, a.eval p.2)) (⟨ps⟩ : Array (Nat × Operand)) = ⟨(ps.map (·.1)).zip vs⟩ := by
    rw [List.map_toArray, evsP ha hv]
  have e' : (Array.map (fun x : Nat × Operand => match x with | (i, x) => (i, a.eval x)) (⟨ps⟩ : Array (Nat × Operand))) = ⟨(ps.map (·.1)).zip vs⟩ := e
  rcases hP.out with ⟨fs, h1, places, h2, rfl⟩ | ⟨n, el, sz, h1, h2, rfl⟩
  · simp only [execOp, e', Instr.build, Sem.run_bind, run_zeroValue hz, Result.andThen_ok, underlying, run_program, h1, Sem.run_pure, h2, hf]
  · simp only [execOp, e', Instr.build, Sem.run_bind, run_zeroValue hz, Result.andThen_ok, underlying, run_program, h1, Sem.run_pure, h2, hf]
theorem tl_buildSlice {d t e sz len : Nat} {z : Value} {ps : List (Nat × Operand)} {vs : List Value} {cells : Array Value} [hS : TySlice x.P t e] [hZ : TySz x.P e sz] [hz : TyZero x.P e z] (hv : evs E (ps.map (·.2)) = some vs)
    (hlen : (0 < len * sz ∧ len * sz ≤ 16777216) = True)
    (hf : Instr.fill (fun i => some (i * sz, sz)) ((Array.range (len * sz)).map (z.cells[· % z.cells.size]!)) ((ps.map (·.1)).zip vs) = some cells) (hd : Nat.blt d x.N = true)
    (k : ∀ b, TL x ops rest Q ((d, .slice (some ⟨b, 0, none⟩) len len) :: E) ρ ([(b, .cells cells e (0, 0))] :: L)) :
    TL x ops (⟨some d, .buildSlice t len ⟨ps⟩, ty, pos, af, none⟩ :: rest) Q E ρ L :=
  tl_new (g := fun b => .slice (some ⟨b, 0, none⟩) len len) (fun a w ha hw => by
    have e' : (Array.map (fun x : Nat × Operand => match x with | (i, x) => (i, a.eval x)) (⟨ps⟩ : Array (Nat × Operand))) = ⟨(ps.map (·.1)).zip vs⟩ := by
      have e : Array.map (fun (p : Nat × Operand) => (p.1, a.eval p.2)) (⟨ps⟩ : Array (Nat × Operand)) = ⟨(ps.map (·.1)).zip vs⟩ := by
        rw [List.map_toArray, evsP ha hv]
      exact e
    obtain ⟨i, g1, g2⟩ := hZ.out
    obtain ⟨hp, hq⟩ := of_eq_true hlen
    have h0 : ¬ (16777216 < len * sz) := by omega
    have h1 : ¬ (len * sz = 0) := by omega
    have hsz : (sizeOf e).run x.P w = .ok sz w := by simp [sizeOf, typeInfo, g1, g2]
    simp only [execOp, e', Instr.buildSlice, Sem.run_bind, underlying, run_program, Result.andThen_ok, hS.out, Sem.run_pure, hsz, gt_iff_lt, Nat.reducePow, h0, if_false, h1, run_zeroValue hz, hf, newRow, run_newObj]) hd rfl k

/-! ## stores -/
theorem setRow_eq {w : World} {b : Nat} {old new : Array Value} {T : TypeId} {fr : Nat × Nat} (h : w.heap[b]? = some (.cells old T fr)) : w.setRow b new = putB w b (.cells new T fr) := by
  obtain ⟨hlt, hv⟩ := Array.getElem?_eq_some_iff.1 h
  unfold World.setRow putB
  congr 1
  apply Array.ext_getElem?
  intro i
  rw [Array.getElem?_modify]
  by_cases hi : b = i
  · subst hi; simp [hlt, hv]
  · rw [if_neg hi, Array.getElem?_setIfInBounds_ne hi]

theorem run_storeAt_row {w : World} {P : Program} {b off n t : Nat} {l : List Value} {T : TypeId} {v : Value} (hZ : TySz P t n) (hb : w.heap[b]? = some (.cells ⟨l⟩ T (0, 0))) (hn : v.cells.size = n) (hfit : off + n ≤ l.length) (h1 : ∀ c ∈ v.cells.toList, c.oneCell' = true) :
    (Instr.storeAt t (.pointer (some ⟨b, off, none⟩)) v).run P w = .ok () (putB w b (.cells ⟨l.take off ++ v.cells.toList ++ l.drop (off + n)⟩ T (0, 0))) := by
  obtain ⟨i, g1, g2⟩ := hZ.out
  have hst := run_storeCells_at P b off T v.cells.toList 0 ⟨l⟩ w hb (by simpa [hn] using hfit) h1
  have hlen : v.cells.toList.length = n := by simpa using hn
  rw [setRow_eq hb] at hst
  simp only [Nat.add_zero, hlen] at hst
  simp only [Instr.storeAt, Instr.sureAddr, storeVar, Sem.run_bind, Sem.run_pure, Result.andThen_ok, sizeOf, typeInfo, run_program, g1, g2, hn, ne_eq, not_true_eq_false, if_false, hst]

/-- cells behind a store -/
def stc (l : List Value) (off : Nat) (vs : List Value) : List Value := l.take off ++ vs ++ l.drop (off + vs.length)

theorem tl_store {t b off n : Nat} {o p : Operand} {l : List Value} {T : TypeId} {v : Value} {f : Obj → SH} (ho : ev E o = some (.pointer (some ⟨b, off, none⟩))) (hp : ev E p = some v) [hZ : TySz x.P t n] [hU : Upd b L (.cells ⟨l⟩ T (0, 0)) f]
    (hn : v.cells.toList.length = n) (hfit : off + n ≤ l.length) (h1 : v.cells.toList.all (·.oneCell') = true)
    (k : TL x ops rest Q E ρ (f (.cells ⟨stc l off v.cells.toList⟩ T (0, 0)))) :
    TL x ops (⟨none, .store t o p, ty, pos, af, none⟩ :: rest) Q E ρ L := fun a w ha hw => by
  refine wpListIn_intro rfl rfl ?_
  obtain ⟨hs, hb⟩ := hw.upd hU (.cells ⟨stc l off v.cells.toList⟩ T (0, 0))
  have hrun := run_storeAt_row (P := x.P) (off := off) (v := v) hZ hb (by simpa using hn) hfit (fun c hc => List.all_eq_true.1 h1 c hc)
  have : (execOp a.eval ⟨none, .store t o p, ty, pos, af, none⟩).run x.P w = .ok .skip (putB w b (.cells ⟨stc l off v.cells.toList⟩ T (0, 0))) := by
    simp only [execOp, ha.eval ho, ha.eval hp, Sem.run_bind, hrun, Result.andThen_ok, Sem.run_pure, stc, hn]
  rw [this]
  exact k _ _ (ha.put_none undef) hs

theorem tl_store_s {t b off : Nat} {o p : Operand} {l : List Value} {T : TypeId} {v : Value} {f : Obj → SH} (ho : ev E o = some (.pointer (some ⟨b, off, none⟩))) (hp : ev E p = some v) (h1 : v.oneCell' = true) [hZ : TySz x.P t 1] [hU : Upd b L (.cells ⟨l⟩ T (0, 0)) f]
    (hfit : Nat.ble (off + 1) l.length = true)
    (k : TL x ops rest Q E ρ (f (.cells ⟨stc l off [v]⟩ T (0, 0)))) :
    TL x ops (⟨none, .store t o p, ty, pos, af, none⟩ :: rest) Q E ρ L :=
  tl_store ho hp (by rw [cells_one h1]; rfl) (Nat.le_of_ble_eq_true hfit) (by rw [cells_one h1]; simp [h1]) (by rw [cells_one h1]; exact k)
theorem tl_store_a {t b off n : Nat} {o p : Operand} {l vs : List Value} {T : TypeId} {f : Obj → SH} (ho : ev E o = some (.pointer (some ⟨b, off, none⟩))) (hp : ev E p = some (.agg ⟨vs⟩)) [hZ : TySz x.P t n] (hn : vs.length = n) (h1 : vs.all (·.oneCell') = true) [hU : Upd b L (.cells ⟨l⟩ T (0, 0)) f]
    (hfit : Nat.ble (off + n) l.length = true)
    (k : TL x ops rest Q E ρ (f (.cells ⟨stc l off vs⟩ T (0, 0)))) :
    TL x ops (⟨none, .store t o p, ty, pos, af, none⟩ :: rest) Q E ρ L :=
  tl_store ho hp hn (Nat.le_of_ble_eq_true hfit) h1 k
theorem ble_le {m n : Nat} (h : m ≤ n) : Nat.ble m n = true := Nat.ble_eq_true_of_le h

/-! ## maps whose keys are integers -/
def mget (es : List MapEntry) (k : Int) : Option Value := (es.find? fun e => match e.key with | .int _ a => a == k | _ => false).map (·.val)
def IntKeys (kk : IntKind) (es : List MapEntry) : Prop := ∀ e ∈ es, ∃ a, e.key = .int kk a
theorem findNow_int {kk : IntKind} {k : Int} : ∀ (es : List MapEntry) (i : Nat), IntKeys kk es →
    (mget es k = none ∧ Instr.findNow (.int kk) (.int kk k) es i = some none) ∨
    ∃ pre e post, es = pre ++ e :: post ∧ e.key = .int kk k ∧ mget pre k = none ∧ mget es k = some e.val ∧ Instr.findNow (.int kk) (.int kk k) es i = some (some (i + pre.length, e.val))
  | [], i, _ => .inl ⟨rfl, rfl⟩
  | e :: r, i, h => by
    obtain ⟨a, ha⟩ := h e (by simp)
    have hr : IntKeys kk r := fun e' he => h e' (by simp [he])
    by_cases hk : k = a
    · subst hk
      refine .inr ⟨[], e, r, rfl, ha, rfl, by simp [mget, ha], by simp [Instr.findNow, Instr.sameNow, ha]⟩
    · have hf : Instr.findNow (.int kk) (.int kk k) (e :: r) i = Instr.findNow (.int kk) (.int kk k) r (i + 1) := by
        have : (k == a) = false := by simpa using hk
        simp [Instr.findNow, Instr.sameNow, ha, this]
      have hg : ∀ l, mget (e :: l) k = mget l k := fun l => by
        have : (a == k) = false := by simpa using fun e : a = k => hk e.symm
        simp [mget, List.find?_cons, ha, this]
      rcases findNow_int r (i + 1) hr with ⟨h1, h2⟩ | ⟨pre, e', post, rfl, h1, h2, h3, h4⟩
      · exact .inl ⟨by rw [hg]; exact h1, by rw [hf]; exact h2⟩
      · exact .inr ⟨e :: pre, e', post, rfl, h1, by rw [hg]; exact h2, by rw [hg]; exact h3, by rw [hf, h4]; simp; omega⟩

theorem run_checkKey_int' {P : Program} {kt : TypeId} {kk : IntKind} (h : TyInt P kt kk) (e : Bool) (n : Nat) (k : Int) (w : World) : (Instr.checkKey e (n + 1) kt (.int kk k)).run P w = .ok () w := by
  simp [Instr.checkKey, underlying, h.out]
theorem run_checkKey_int {P : Program} {kt : TypeId} {kk : IntKind} (h : TyInt P kt kk) (e : Bool) (k : Int) (w : World) : (Instr.checkKey e 10000 kt (.int kk k)).run P w = .ok () w :=
  run_checkKey_int' h e 9999 k w

theorem run_lookup_int {P : Program} {t kt e : TypeId} {kk : IntKind} {z : Value} (hM : TyMap P t kt e) (hK : TyInt P kt kk) (hz : TyZero P e z) {w : World} {b : Nat} {es : List MapEntry} {ck : Nat}
    (hb : w.heap[b]? = some (.map ⟨es⟩ ck)) (hes : IntKeys kk es) (k : Int) (ok : Bool) :
    (Instr.lookup t (.map (some b)) (.int kk k) ok).run P w = .ok (if ok then .tuple #[(mget es k).getD z, .bool (mget es k).isSome] else (mget es k).getD z) w := by
  have hck := fun e => run_checkKey_int hK e k w
  have hfk : (Instr.findKey kt (.int kk k) es).run P w = .ok ((Instr.findNow (.int kk) (.int kk k) es 0).getD none) w ∧ True := by
    refine ⟨?_, trivial⟩
    simp only [Instr.findKey, Sem.run_bind, underlying, run_program, Result.andThen_ok, hK.out, Sem.run_pure]
    rcases findNow_int (k := k) es 0 hes with ⟨h1, h2⟩ | ⟨pre, e', post, h0, h1, h2, h3, h4⟩
    · simp [h2]
    · simp [h4]
  rcases findNow_int (k := k) es 0 hes with ⟨h1, h2⟩ | ⟨pre, e', post, h0, h1, h2, h3, h4⟩
  · rw [h2] at hfk
    cases ok <;> simp [Instr.lookup, underlying, hM.out, MapKept.run_getObj_map hb, hck, hfk.1, run_zeroValue hz, h1]
  · rw [h4] at hfk
    cases ok <;> simp [Instr.lookup, underlying, hM.out, MapKept.run_getObj_map hb, hck, hfk.1, h3]

theorem y_lookup_ok {m i : Operand} {t kt e b : Nat} {kk : IntKind} {z : Value} {es : List MapEntry} {ck : Nat} {k : Int} (hm : ev E m = some (.map (some b))) (hi : ev E i = some (.int kk k)) [hM : TyMap x.P t kt e] [hK : TyInt x.P kt kk] [hz : TyZero x.P e z]
    [hF : Find b L (.map ⟨es⟩ ck)] (hes : IntKeys kk es) : Yl x (.lookup t m i true) ty E ρ L (.tuple #[(mget es k).getD z, .bool (mget es k).isSome]) := fun a w _ _ _ _ ha hw => by
  simp only [execOp, ha.eval hm, ha.eval hi, Sem.run_bind, run_lookup_int hM hK hz (hw.find hF) hes, Result.andThen_ok, Sem.run_pure, if_true]
theorem y_lookup {m i : Operand} {t kt e b : Nat} {kk : IntKind} {z : Value} {es : List MapEntry} {ck : Nat} {k : Int} (hm : ev E m = some (.map (some b))) (hi : ev E i = some (.int kk k)) [hM : TyMap x.P t kt e] [hK : TyInt x.P kt kk] [hz : TyZero x.P e z]
    [hF : Find b L (.map ⟨es⟩ ck)] (hes : IntKeys kk es) : Yl x (.lookup t m i false) ty E ρ L ((mget es k).getD z) := fun a w _ _ _ _ ha hw => by
  simp only [execOp, ha.eval hm, ha.eval hi, Sem.run_bind, run_lookup_int hM hK hz (hw.find hF) hes, Result.andThen_ok, Sem.run_pure, Bool.false_eq_true, if_false]

theorem y_lookup_ok2 {m i : Operand} {t kt e b : Nat} {kk : IntKind} {z : Value} {es : List MapEntry} {ck : Nat} {k : Int} {r : Option Value} (hm : ev E m = some (.map (some b))) (hi : ev E i = some (.int kk k)) [hM : TyMap x.P t kt e] [hK : TyInt x.P kt kk] [hz : TyZero x.P e z]
    [hF : Find b L (.map ⟨es⟩ ck)] (hes : IntKeys kk es) (hg : mget es k = r) : Yl x (.lookup t m i true) ty E ρ L (.tuple ⟨[r.getD z, .bool r.isSome]⟩) := by
  subst hg; exact y_lookup_ok hm hi hes
theorem y_lookup2 {m i : Operand} {t kt e b : Nat} {kk : IntKind} {z : Value} {es : List MapEntry} {ck : Nat} {k : Int} {v : Value} (hm : ev E m = some (.map (some b))) (hi : ev E i = some (.int kk k)) [hM : TyMap x.P t kt e] [hK : TyInt x.P kt kk] [hz : TyZero x.P e z]
    [hF : Find b L (.map ⟨es⟩ ck)] (hes : IntKeys kk es) (hg : mget es k = some v) : Yl x (.lookup t m i false) ty E ρ L v := by
  have := y_lookup (x := x) (ty := ty) (ρ := ρ) hm hi (hM := hM) (hK := hK) (hz := hz) (hF := hF) hes
  rw [hg] at this; exact this
theorem mget_append_none {pre : List MapEntry} {k : Int} (h : mget pre k = none) (post : List MapEntry) : mget (pre ++ post) k = mget post k := by
  unfold mget at *
  rw [List.find?_append]
  simp only [Option.map_eq_none_iff] at h
  rw [h]; rfl
theorem mget_append (pre post : List MapEntry) (k : Int) : mget (pre ++ post) k = (mget pre k).or (mget post k) := by
  unfold mget
  rw [List.find?_append]
  cases (pre.find? _) <;> simp

theorem run_mapUpdate_int {P : Program} {t kt e : TypeId} {kk : IntKind} (hM : TyMap P t kt e) (hK : TyInt P kt kk) {w : World} {b : Nat} {es : List MapEntry} {ck : Nat}
    (hb : w.heap[b]? = some (.map ⟨es⟩ ck)) (hes : IntKeys kk es) (k : Int) (v : Value) :
    ∃ es' ck', (Instr.mapUpdate t (.map (some b)) (.int kk k) v).run P w = .ok () (putB w b (.map ⟨es'⟩ ck')) ∧ IntKeys kk es' ∧ ∀ j, mget es' j = if j = k then some v else mget es j := by
  have hck := fun e => run_checkKey_int hK e k w
  have hfk : (Instr.findKey kt (.int kk k) es).run P w = .ok ((Instr.findNow (.int kk) (.int kk k) es 0).getD none) w ∧ True := by
    refine ⟨?_, trivial⟩
    simp only [Instr.findKey, Sem.run_bind, underlying, run_program, Result.andThen_ok, hK.out, Sem.run_pure]
    rcases findNow_int (k := k) es 0 hes with ⟨h1, h2⟩ | ⟨pre, e', post, h0, h1, h2, h3, h4⟩
    · simp [h2]
    · simp [h4]
  rcases findNow_int (k := k) es 0 hes with ⟨h1, h2⟩ | ⟨pre, e', post, rfl, h1, h2, h3, h4⟩
  · rw [h2] at hfk
    refine ⟨es ++ [{ key := .int kk k, val := v, born := ck }], ck + 1, ?_, ?_, ?_⟩
    · simp [Instr.mapUpdate, underlying, hM.out, MapKept.run_getObj_map hb, hck, hfk.1, MapKept.run_setObj_map _ hb, putB]
    · intro e he
      rcases List.mem_append.1 he with he | he
      · exact hes e he
      · simp only [List.mem_singleton] at he; subst he; exact ⟨k, rfl⟩
    · intro j
      rw [mget_append]
      by_cases hj : j = k
      · subst hj; rw [h1]; simp [mget]
      · rw [if_neg hj]
        have : mget [({ key := .int kk k, val := v, born := ck } : MapEntry)] j = none := by
          have : (k == j) = false := by simpa using fun e : k = j => hj e.symm
          simp [mget, this]
        rw [this]; simp
  · rw [h4] at hfk
    have hstay : (Instr.keyThatStays (.int kk k) (.int kk k)).run P w = .ok (.int kk k) w := by
      have : Instr.sameBits 10000 (.int kk k) (.int kk k) = true := by simp [Instr.sameBits]
      simp [Instr.keyThatStays, this]
    refine ⟨pre ++ { e' with key := .int kk k, val := v } :: post, ck, ?_, ?_, ?_⟩
    · have hmod : (Array.mk (pre ++ e' :: post)).modify pre.length (fun e => { e with key := .int kk k, val := v }) = ⟨pre ++ { e' with key := .int kk k, val := v } :: post⟩ := by
        apply Array.ext_getElem?
        intro i
        rw [Array.getElem?_modify]
        simp only [List.getElem?_toArray]
        rcases Nat.lt_trichotomy i pre.length with hi | hi | hi
        · rw [if_neg (by omega), List.getElem?_append_left hi, List.getElem?_append_left hi]
        · subst hi; simp
        · rw [if_neg (by omega), List.getElem?_append_right (by omega), List.getElem?_append_right (by omega)]
          have : i - pre.length = (i - pre.length - 1) + 1 := by omega
          rw [this]; simp
      have hmod' := congrArg Array.toList hmod
      simp only [Array.toList_modify] at hmod'
      simp [Instr.mapUpdate, underlying, hM.out, MapKept.run_getObj_map hb, hck, hfk.1, MapKept.run_setObj_map _ hb, putB, h1, hstay, hmod']
    · intro e he
      rcases List.mem_append.1 he with he | he
      · exact hes e (by simp [he])
      · rcases List.mem_cons.1 he with rfl | he
        · exact ⟨k, rfl⟩
        · exact hes e (by simp [he])
    · intro j
      rw [mget_append, mget_append]
      by_cases hj : j = k
      · subst hj; rw [h2]; simp [mget]
      · rw [if_neg hj]
        have hkj : (k == j) = false := by simpa using fun e : k = j => hj e.symm
        congr 1
        simp [mget, List.find?_cons, h1, hkj]

theorem tl_mapUpdate {m i p : Operand} {t kt e b : Nat} {kk : IntKind} {es : List MapEntry} {ck : Nat} {k : Int} {v : Value} {f : Obj → SH} (hm : ev E m = some (.map (some b))) (hi : ev E i = some (.int kk k)) (hp : ev E p = some v)
    [hM : TyMap x.P t kt e] [hK : TyInt x.P kt kk] [hU : Upd b L (.map ⟨es⟩ ck) f] (hes : IntKeys kk es)
    (kk' : ∀ es' ck', IntKeys kk es' → (∀ j, mget es' j = if j = k then some v else mget es j) → TL x ops rest Q E ρ (f (.map ⟨es'⟩ ck'))) :
    TL x ops (⟨none, .mapUpdate t m i p, ty, pos, af, none⟩ :: rest) Q E ρ L := fun a w ha hw => by
  refine wpListIn_intro rfl rfl ?_
  obtain ⟨es', ck', hrun, h1, h2⟩ := run_mapUpdate_int hM hK (hw.upd hU (.map ⟨es⟩ ck)).2 hes k v
  have hs := (hw.upd hU (.map ⟨es'⟩ ck')).1
  have : (execOp a.eval ⟨none, .mapUpdate t m i p, ty, pos, af, none⟩).run x.P w = .ok .skip (putB w b (.map ⟨es'⟩ ck')) := by
    simp only [execOp, ha.eval hm, ha.eval hi, ha.eval hp, Sem.run_bind, hrun, Result.andThen_ok, Sem.run_pure]
  rw [this]
  exact kk' es' ck' h1 h2 _ _ (ha.put_none undef) hs
end
end Go.Proofs.E

namespace Go.Proofs.E
open Go
set_option linter.unusedVariables false
set_option linter.unusedSimpArgs false

/-! ## contracts -/
def Spec (P : Program) (f : FuncId) (args : List Value) (ρ : Hp) (L : SH) (Post : Value → Hp → SH → Prop) : Prop :=
  ∀ u R w, Sat u ρ (L ++ R) w → CallsIn Fence.wide 0 P f ⟨args⟩ w (fun e w' => ∃ v ρ' L', e = .returned v ∧ ρ.le ρ' ∧ Sat u ρ' (L' ++ R) w' ∧ Post v ρ' L')
theorem Spec.mono {P f args ρ L} {Post Post' : Value → Hp → SH → Prop} (h : Spec P f args ρ L Post) (k : ∀ v ρ' L', ρ.le ρ' → Post v ρ' L' → Post' v ρ' L') : Spec P f args ρ L Post' :=
  fun u R w hw => (h u R w hw).mono fun e w' ⟨v, ρ', L', h1, h2, h3, h4⟩ => ⟨v, ρ', L', h1, h2, h3, k _ _ _ h2 h4⟩
/-- a contract over a larger heap -/
theorem Spec.frame {P f args ρ L} {Post : Value → Hp → SH → Prop} (h : Spec P f args ρ L Post) (F : SH) : Spec P f args ρ (L ++ F) (fun v ρ' L' => ∃ L1, L' = L1 ++ F ∧ Post v ρ' L1) := fun u R w hw => by
  refine (h u (F ++ R) w (by rw [← List.append_assoc]; exact hw)).mono ?_
  rintro e w' ⟨v, ρ', L', h1, h2, h3, h4⟩
  exact ⟨v, ρ', L' ++ F, h1, h2, by rw [List.append_assoc]; exact h3, L', rfl, h4⟩

class Fun (P : Program) (f : FuncId) : Prop where
  out : ∃ fn, P.funcs[f]? = some fn ∧ (fn.name == "runtime.NumGoroutine") = false ∧ fn.body.isNone = false

theorem run_callFunc {P : Program} {f : FuncId} (h : Fun P f) (args : Array Value) (w : World) : (callFunc f args).run P w = .ok (.enter f args) w := by
  obtain ⟨fn, h1, h2, h3⟩ := h.out
  simp only [callFunc, Sem.run_bind, run_program, Result.andThen_ok, h1, h2, h3, Bool.false_eq_true, if_false, Sem.run_pure]

section
variable {x : Cx} {Q : Exit → Act → World → Prop} {E : Env} {ρ : Hp} {L : SH} {ops : Array Oper} {rest : List Oper} {ty : TypeId} {pos : String} {af : Array Edge}

theorem calls_ro {ro : Option Nat} {P f args w R} (h : CallsIn Fence.wide 0 P f args w R) : CallsIn (Fw ro) 0 P f args w R := h

theorem tl_is (f : Operand) {d : Option Nat} {xs : Array Operand} {ats : Array TypeId} (h : TL x ops (⟨d, .call { callee := .value f, args := xs, argTypes := ats }, ty, pos, af, none⟩ :: rest) Q E ρ L) :
    TL x ops (⟨d, .call { callee := .value f, args := xs, argTypes := ats }, ty, pos, af, none⟩ :: rest) Q E ρ L := h
theorem tl_call {d g : Nat} {f : Operand} {xs : List Operand} {ats : Array TypeId} {fs cs vs : List Value} {Lf R : SH} {Post : Value → Hp → SH → Prop} (hf : ev E f = some (.func (.func g) ⟨fs⟩ ⟨cs⟩)) (hv : evs E xs = some vs) [hF : Fun x.P g]
    (S : Spec x.P g (fs ++ vs ++ cs) ρ Lf Post) (hT : Take L Lf R) (hd : Nat.blt d x.N = true)
    (k : ∀ v ρ' L', ρ.le ρ' → Post v ρ' L' → TL x ops rest Q ((d, v) :: E) ρ' (L' ++ R)) :
    TL x ops (⟨some d, .call { callee := .value f, args := ⟨xs⟩, argTypes := ats }, ty, pos, af, none⟩ :: rest) Q E ρ L := fun a w ha hw => by
  refine wpListIn_intro rfl rfl ?_
  have hargs : Array.map a.eval (⟨xs⟩ : Array Operand) = ⟨vs⟩ := by rw [List.map_toArray, ha.evals hv]
  have hrun : (execOp a.eval ⟨some d, .call { callee := .value f, args := ⟨xs⟩, argTypes := ats }, ty, pos, af, none⟩).run x.P w = .ok (.enter g ⟨fs ++ vs ++ cs⟩) w := by
    simp only [execOp, resolve, hargs, ha.eval hf, Deferred.ofValue, Sem.run_bind, Sem.run_pure, Result.andThen_ok, invoke]
    have := run_callFunc hF (⟨fs⟩ ++ ⟨vs⟩ ++ ⟨cs⟩) w
    simpa using this
  rw [hrun, Oper.uponIn_enter]
  refine ⟨fun h => by simp [Fw, Fence.wide] at h, ?_⟩
  refine calls_ro ((S x.u R w (hw.perm hT.out)).mono ?_)
  rintro e w' ⟨v, ρ', L', rfl, h2, h3, h4⟩
  exact k v ρ' L' h2 h4 _ _ (ha.put (Nat.le_of_ble_eq_true hd) v) h3

/-! ## a call of yield -/
def YSpec (P : Program) (l : Nat) (args : List Value) (ρ : Hp) (L : SH) (Post : Bool → Hp → SH → Prop) : Prop :=
  ∀ u R w, Sat u ρ (L ++ R) w → YieldAt Fence.wide 0 P l ⟨args⟩ w (fun e w' => ∃ b ρ' L', e = .returned (.bool b) ∧ ρ.le ρ' ∧ Sat u ρ' (L' ++ R) w' ∧ Post b ρ' L')

theorem tl_yield {d l : Nat} {f : Operand} {xs : List Operand} {ats : Array TypeId} {vs : List Value} {Lf R : SH} {Post : Bool → Hp → SH → Prop} (hf : ev E f = some (.func (.yield l) ⟨[]⟩ ⟨[]⟩)) (hv : evs E xs = some vs)
    (S : YSpec x.P l vs ρ Lf Post) (hT : Take L Lf R) (hd : Nat.blt d x.N = true)
    (k : ∀ b ρ' L', ρ.le ρ' → Post b ρ' L' → TL x ops rest Q ((d, .bool b) :: E) ρ' (L' ++ R)) :
    TL x ops (⟨some d, .call { callee := .value f, args := ⟨xs⟩, argTypes := ats }, ty, pos, af, none⟩ :: rest) Q E ρ L := fun a w ha hw => by
  refine wpListIn_intro rfl rfl ?_
  obtain ⟨fn, tmps, assign, body, hy, hR⟩ := S x.u R w (hw.perm hT.out)
  have hargs : Array.map a.eval (⟨xs⟩ : Array Operand) = ⟨vs⟩ := by rw [List.map_toArray, ha.evals hv]
  have hrun : (execOp a.eval ⟨some d, .call { callee := .value f, args := ⟨xs⟩, argTypes := ats }, ty, pos, af, none⟩).run x.P w = .ok (.round l fn tmps assign body) w := by
    simp only [execOp, resolve, hargs, ha.eval hf, Deferred.ofValue, Sem.run_bind, Sem.run_pure, Result.andThen_ok, invoke]
    have e : (#[] : Array Value) ++ (⟨vs⟩ : Array Value) = ⟨vs⟩ := by simp
    have : (Array.mk ([] : List Value)) ++ (⟨vs⟩ : Array Value) = ⟨vs⟩ := by simp
    rw [this, hy]
  rw [hrun, Oper.uponIn_round]
  refine ⟨fun h => by simp [Fw, Fence.wide] at h, ?_⟩
  have hR' : RoundIn (Fw x.ro) 0 x.P l fn tmps assign body w _ := hR
  refine hR'.mono ?_
  rintro e w' ⟨b, ρ', L', rfl, h2, h3, h4⟩
  exact k b ρ' L' h2 h4 _ _ (ha.put (Nat.le_of_ble_eq_true hd) _) h3

/-! ## results, the way in and the way out -/
def R1 (x : Cx) (E : Env) (ρ : Hp) (L : SH) (r : ResultVar) (v : Value) : Prop :=
  ∀ a w, Ok x.D x.N E a → Sat x.u ρ L w → (match r with | .tmp t => pure (a.tmps.getD t undef) | .cell q t => do loadVar t (← asAddr (a.tmps.getD q undef)) : Sem Value).run x.P w = .ok v w
theorem r1_tmp {t : Nat} {v : Value} (h : lk E t = some v) : R1 x E ρ L (.tmp t) v := fun a w ha hw => by
  simp [ha.get t v h]
theorem r1_cell {q t b n : Nat} {l : List Value} {T : TypeId} {fr : Nat × Nat} (h : lk E q = some (.pointer (some ⟨b, 0, none⟩))) [hA : TyA x.P t n] [hF : Find b L (.cells ⟨l⟩ T fr)] (hn : l.length = n) : R1 x E ρ L (.cell q t) (.agg ⟨l⟩) := fun a w ha hw => by
  have := run_loadAt_row (off := 0) hA (hw.find hF) (by omega)
  rw [List.drop_zero, List.take_of_length_le (by omega)] at this
  simp only [Instr.loadAt, Instr.sureAddr, Sem.run_bind, Sem.run_pure, Result.andThen_ok] at this
  simp [ha.get q _ h, asAddr, this]
theorem r1_cell_s {q t b : Nat} {C : Array Value} {T : TypeId} {fr : Nat × Nat} {v : Value} (h : lk E q = some (.pointer (some ⟨b, 0, none⟩))) [hA : TyS x.P t] [hF : Find b L (.cells C T fr)] (hn : C[0]? = some v) : R1 x E ρ L (.cell q t) v := fun a w ha hw => by
  have := run_loadAt_cell hA (hw.find hF) hn
  simp only [Instr.loadAt, Instr.sureAddr, Sem.run_bind, Sem.run_pure, Result.andThen_ok] at this
  simp [ha.get q _ h, asAddr, this]

/-- what is asked where a function ends -/
def RK (u : World) (ρ0 : Hp) (R : SH) (Post : Value → Hp → SH → Prop) : Ending → World → Prop := fun e w' => ∃ v ρ' L', e = .returned v ∧ ρ0.le ρ' ∧ Sat u ρ' (L' ++ R) w' ∧ Post v ρ' L'
/-- `R` is left of `G` -/
class Ends (G : SH) (R : SH) : Prop where
  out : List.Sublist R.flatten G.flatten
instance (priority := 1100) Ends.refl {R : SH} : Ends R R := ⟨List.Sublist.refl _⟩
instance (priority := 900) Ends.cons {G R : SH} {c : List (Nat × Obj)} [h : Ends G R] : Ends (c :: G) R := ⟨by
  simp only [List.flatten_cons]; exact h.out.trans (List.sublist_append_right _ _)⟩
theorem Sat.ends {u ρ w} {L L' G R : SH} (h : Sat u ρ L w) (k : Take L L' G) (e : Ends G R) : Sat u ρ (L' ++ R) w := by
  refine (h.perm k.out).sub ?_
  simp only [List.flatten_append]
  exact List.Sublist.append (List.Sublist.refl _) e.out

def isEnd : Exit → Bool
  | .normal | .ret => true
  | _ => false
theorem te_end {e : Exit} {fn : Func} {u : World} {ρ0 : Hp} {R : SH} {Post : Value → Hp → SH → Prop} {L' G : SH} {v : Value} (he : isEnd e = true) (hD : x.D = []) (hu : x.u = u) (hr : ∀ a w, Ok x.D x.N E a → Sat x.u ρ L w → (results fn a.tmps).run x.P w = .ok v w)
    (hle : ρ0.le ρ) (k : Take L L' G) (en : Ends G R) (hp : Post v ρ L') : TE x e (bodyPostM (Fw none) 0 x.P fn (RK u ρ0 R Post)) E ρ L := fun a w ha hw => by
  subst hu
  have h := hr a w ha hw
  have hd := ha.defers
  rw [hD] at hd
  cases e <;> simp only [isEnd, Bool.false_eq_true] at he <;> simp only [bodyPostM, hd, LeavesInM, LeavesIn] <;> exact ⟨v, h, v, ρ, L', rfl, hle, hw.ends k en, hp⟩

def resG (tmps : Array Value) : ResultVar → Sem Value := fun
  | .tmp t => pure (tmps.getD t undef)
  | .cell q t => do loadVar t (← asAddr (tmps.getD q undef))
theorem R1.run {r : ResultVar} {v : Value} (h : R1 x E ρ L r v) {a w} (ha : Ok x.D x.N E a) (hw : Sat x.u ρ L w) : (resG a.tmps r).run x.P w = .ok v w := by
  have := h a w ha hw
  cases r <;> exact this
theorem results_eq (fn : Func) (tmps : Array Value) : results fn tmps = (fn.results.mapM (resG tmps) >>= fun vs => pure (if h : vs.size = 1 then vs[0] else .tuple vs)) := rfl
theorem res0 {fn : Func} (h : fn.results = #[]) : ∀ a w, Ok x.D x.N E a → Sat x.u ρ L w → (results fn a.tmps).run x.P w = .ok (.tuple ⟨[]⟩) w := fun a w _ _ => by
  simp [results, h]
theorem res1 {fn : Func} {r : ResultVar} {v : Value} (h : fn.results = #[r]) (h1 : R1 x E ρ L r v) : ∀ a w, Ok x.D x.N E a → Sat x.u ρ L w → (results fn a.tmps).run x.P w = .ok v w := fun a w ha hw => by
  rw [results_eq, h]
  simp [h1.run ha hw]
theorem res2 {fn : Func} {r s : ResultVar} {v u : Value} (h : fn.results = #[r, s]) (h1 : R1 x E ρ L r v) (h2 : R1 x E ρ L s u) : ∀ a w, Ok x.D x.N E a → Sat x.u ρ L w → (results fn a.tmps).run x.P w = .ok (.tuple ⟨[v, u]⟩) w := fun a w ha hw => by
  rw [results_eq, h]
  simp [h1.run ha hw, h2.run ha hw]
theorem res3 {fn : Func} {r s t : ResultVar} {v u z : Value} (h : fn.results = #[r, s, t]) (h1 : R1 x E ρ L r v) (h2 : R1 x E ρ L s u) (h3 : R1 x E ρ L t z) : ∀ a w, Ok x.D x.N E a → Sat x.u ρ L w → (results fn a.tmps).run x.P w = .ok (.tuple ⟨[v, u, z]⟩) w := fun a w ha hw => by
  rw [results_eq, h]
  simp [h1.run ha hw, h2.run ha hw, h3.run ha hw]

/-- the environment in which a call begins -/
def argsE : Nat → List Value → Env
  | _, [] => []
  | k, v :: r => (k, v) :: argsE (k + 1) r
theorem lk_argsE : ∀ (vs : List Value) (k t : Nat) (v : Value), lk (argsE k vs) t = some v → k ≤ t ∧ vs[t - k]? = some v
  | [], k, t, v, h => by cases h
  | u :: r, k, t, v, h => by
    simp only [argsE, lk] at h
    cases hb : Nat.beq k t with
    | true =>
      rw [hb] at h
      have e : k = t := Nat.eq_of_beq_eq_true hb
      subst e
      simp only [Option.some.injEq] at h
      simp [h]
    | false =>
      rw [hb] at h
      obtain ⟨h1, h2⟩ := lk_argsE r (k + 1) t v h
      refine ⟨by omega, ?_⟩
      have e : t - k = (t - (k + 1)) + 1 := by omega
      rw [e]; simpa using h2
theorem spec_enter {P : Program} {f N : Nat} {fn : Func} {c : Code} {args : List Value} {Post : Value → Hp → SH → Prop} (hf : P.funcs[f]? = some fn) (hb : fn.body = some c) (hN : fn.ntmps = N) (hl : Nat.ble args.length N = true)
    (h : ∀ u R, TC ⟨none, P, u, [], N⟩ c (bodyPostM (Fw none) 0 P fn (RK u ρ R Post)) (argsE 0 args) ρ (L ++ R)) : Spec P f args ρ L Post := fun u R w hw => by
  refine callsIn_of_wp_marks hf hb trivial ?_ rfl
  have hl' := Nat.le_of_ble_eq_true hl
  refine h u R _ w ⟨rfl, ?_, fun t v ht => ?_⟩ hw
  · simp [hN]; omega
  · obtain ⟨_, h2⟩ := lk_argsE args 0 t v ht
    have h2' : args[t]? = some v := by simpa using h2
    have hlt : t < args.length := (List.getElem?_eq_some_iff.1 h2').1
    rw [Array.getElem?_append_left (by simpa using hlt)]
    simpa using h2'
end
end Go.Proofs.E

namespace Go.Proofs.E
open Go
set_option linter.unusedVariables false

def isAggD : TypeDesc → Bool
  | .struct _ | .array _ _ => true
  | _ => false
theorem mkTyS {P : Program} {t : TypeId} (h : (P.underlying t).map isAggD = some false) (k : (P.info? t).map (·.size) = some 1) : TyS P t := by
  obtain ⟨d, hd, he⟩ := Option.map_eq_some_iff.1 h
  obtain ⟨i, hi, hj⟩ := Option.map_eq_some_iff.1 k
  exact ⟨d, i, hd, by cases d <;> simp_all [isAggD], hi, hj⟩
theorem mkTyA {P : Program} {t : TypeId} {n : Nat} (h : (P.underlying t).map isAggD = some true) (k : (P.info? t).map (·.size) = some n) : TyA P t n := by
  obtain ⟨d, hd, he⟩ := Option.map_eq_some_iff.1 h
  obtain ⟨i, hi, hj⟩ := Option.map_eq_some_iff.1 k
  exact ⟨d, i, hd, by cases d <;> simp_all [isAggD], hi, hj⟩
theorem mkTySz {P : Program} {t : TypeId} {n : Nat} (k : (P.info? t).map (·.size) = some n) : TySz P t n := by
  obtain ⟨i, hi, hj⟩ := Option.map_eq_some_iff.1 k
  exact ⟨i, hi, hj⟩
theorem mkTyBytes {P : Program} {t : TypeId} {n : Nat} (k : (P.info? t).map (·.bytes) = some n) : TyBytes P t n := by
  obtain ⟨i, hi, hj⟩ := Option.map_eq_some_iff.1 k
  exact ⟨i, hi, hj⟩
theorem mkTyZero {P : Program} {t : TypeId} {z : Value} (k : (P.info? t).bind (·.zero) = some z) : TyZero P t z := by
  obtain ⟨i, hi, hj⟩ := Option.bind_eq_some_iff.1 k
  exact ⟨i, hi, hj⟩
def isFuncD : TypeDesc → Bool
  | .func _ _ _ => true
  | _ => false
theorem mkTyFunc {P : Program} {t : TypeId} (h : (P.underlying t).map isFuncD = some true) : TyFunc P t := by
  obtain ⟨d, hd, he⟩ := Option.map_eq_some_iff.1 h
  cases d <;> simp [isFuncD] at he
  exact ⟨_, _, _, hd⟩
def fldB (P : Program) (s f : Nat) : Option (Nat × Nat) :=
  match P.underlying s with
  | some (.struct fs) => match fs[f]? with
    | some fd => match P.info? fd.type with
      | some i => match i.size with | 0 => none | _ + 1 => some (fd.offset, fd.type)
      | none => none
    | none => none
  | _ => none
theorem mkFld {P : Program} {s : TypeId} {f off : Nat} {ft : TypeId} (h : fldB P s f = some (off, ft)) : Fld P s f off ft := by
  unfold fldB at h
  split at h
  · rename_i fs hs
    split at h
    · rename_i fd hf
      split at h
      · rename_i i hi
        split at h
        · cases h
        · rename_i n hn
          simp only [Option.some.injEq, Prod.mk.injEq] at h
          obtain ⟨rfl, rfl⟩ := h
          exact ⟨fs, fd, i, hs, hf, rfl, rfl, hi, by omega⟩
      · cases h
    · cases h
  · cases h
def placesB (P : Program) (t : Nat) : Option (List (Nat × Nat)) :=
  match P.underlying t with
  | some (.struct fs) => fs.toList.mapM fun f => (P.info? f.type).map fun i => (f.offset, i.size)
  | _ => none
theorem mapM_places {P : Program} : ∀ (fs : List Field) (ps : List (Nat × Nat)), (fs.mapM fun f => (P.info? f.type).map fun i => (f.offset, i.size)) = some ps →
    ∀ w, (fs.mapM fun f => do pure (f.offset, ← sizeOf f.type) : Sem (List (Nat × Nat))).run P w = .ok ps w
  | [], ps, h, w => by simp at h; simp [h]
  | f :: r, ps, h, w => by
    simp only [List.mapM_cons, Option.bind_eq_bind, Option.bind_eq_some_iff, Option.map_eq_some_iff] at h
    obtain ⟨p, ⟨i, hi, rfl⟩, qs, hq, hp⟩ := h
    have hp' : (f.offset, i.size) :: qs = ps := by simpa using hp
    subst hp'
    have ih := mapM_places r qs hq w
    simp only [List.mapM_cons, Sem.run_bind, sizeOf, typeInfo, run_program, Result.andThen_ok, hi, Sem.run_pure] at ih ⊢
    simp only [ih, Result.andThen_ok]
theorem mkTyPlaces {P : Program} {t : TypeId} {ps : List (Nat × Nat)} (h : placesB P t = some ps) : TyPlaces P t (ps[·]?) := by
  unfold placesB at h
  split at h
  · rename_i fs hs
    refine ⟨.inl ⟨fs, hs, ⟨ps⟩, fun w => ?_, ?_⟩⟩
    · have := mapM_places fs.toList ps h w
      rw [Array.mapM_eq_mapM_toList]
      simp only [Sem.run_map, this, Result.andThen_ok]
    · funext i; simp
  · cases h
theorem mkTyPlacesA {P : Program} {t : TypeId} {n : Nat} {e : TypeId} {sz : Nat} (h : P.underlying t = some (.array n e)) (k : (P.info? e).map (·.size) = some sz) : TyPlaces P t (fun i => some (i * sz, sz)) := by
  obtain ⟨i, hi, hj⟩ := Option.map_eq_some_iff.1 k
  exact ⟨.inr ⟨n, e, sz, h, fun w => by simp [sizeOf, typeInfo, hi, hj], rfl⟩⟩
def funB (P : Program) (f : Nat) : Bool :=
  match P.funcs[f]? with
  | some fn => !(fn.name == "runtime.NumGoroutine") && !fn.body.isNone
  | none => false
theorem mkFun {P : Program} {f : FuncId} (h : funB P f = true) : Fun P f := by
  unfold funB at h
  split at h
  · rename_i fn hf
    simp only [Bool.and_eq_true, Bool.not_eq_true'] at h
    exact ⟨fn, hf, h.1, h.2⟩
  · cases h
end Go.Proofs.E

namespace Go.Proofs.E
open Go
set_option linter.unusedVariables false
set_option linter.unusedSimpArgs false

/-! ## regions that draw their order: quiet operations, then a chain -/
section
variable {P : Program} {ops : Array Oper} {md : Region.Mode} {w : World} {ro : Option Nat}

theorem wpOpIn_of_stOp {i : Nat} {a : Act} {K : Act → Prop} {K' : Act → World → Prop} {Q' : Exit → Act → World → Prop} (hnd : ops.all (fun o => noDefer o.op) = true) (h : ∀ a, K a → K' a w) (hh : stOp P ops w i K a) :
    wpOpIn (Fw ro) 0 P ops Q' i K' a w := by
  unfold stOp at hh
  unfold wpOpIn
  cases ho : ops[i]? with
  | none => simp only [ho] at hh ⊢; exact h _ hh
  | some o =>
    have hn : noDefer o.op = true := by
      have hm : o ∈ ops := Array.mem_of_getElem? ho
      exact (Array.all_eq_true_iff_forall_mem.1 hnd) o hm
    simp only [ho] at hh ⊢
    split
    · rename_i hw
      simp only [hw, if_true] at hh
      refine ⟨fun _ _ => trivial, ?_⟩
      rw [show (Fw ro).round = ro from rfl, semAt_nd hn]
      unfold Oper.still at hh
      generalize (execOp a.eval o).run P w = r at *
      cases r with
      | ok n w' =>
        cases n <;> simp only [Oper.stillUpon] at hh <;> simp only [Oper.uponIn]
        case value v => obtain ⟨rfl, hk⟩ := hh; exact h _ hk
        case skip => obtain ⟨rfl, hk⟩ := hh; exact h _ hk
        case enter f args =>
          obtain ⟨rfl, v, hc, hk⟩ := hh
          refine ⟨fun hf => by simp [Fw, Fence.wide] at hf, ?_⟩
          refine calls_ro ((callsIn_wide.2 hc).mono ?_)
          rintro e w'' ⟨rfl, rfl⟩
          exact h _ hk
      | halt x w' => simp only [Oper.stillUpon] at hh
    · rename_i hw
      simp only [hw] at hh
      exact ⟨fun _ _ => trivial, h _ hh⟩

theorem wpAnyIn_of_head {n g : Nat} {L : Array Bool → Act → Prop} {Q' : Exit → Act → World → Prop} (hnd : ops.all (fun o => noDefer o.op) = true) (hL : ∀ listed a, L listed a → wpAnyIn (Fw ro) 0 P md ops Q' g listed a w) :
    ∀ (f : Nat) (listed : Array Bool) (a : Act), wpAnyL P md ops w n L f listed a → wpAnyIn (Fw ro) 0 P md ops Q' (f + g) listed a w
  | 0, listed, a, h => by rw [Nat.zero_add]; exact hL _ _ h
  | f + 1, listed, a, h => by
    rw [show f + 1 + g = (f + g) + 1 by omega]
    exact ⟨fun h0 => absurd h0 h.1, fun i hi => wpOpIn_of_stOp hnd (fun a' h' => wpAnyIn_of_head hnd hL f _ a' h') (h.2 i hi).2⟩

theorem wpAnyIn_of_seq {Q' : Exit → Act → World → Prop} : ∀ (l : List Oper) (k : Nat) (listed : Array Bool) (a : Act) (w : World), (∀ j, l[j]? = ops[k + j]?) →
    Region.seqB md ops l.length k listed = true → wpListIn (Fw ro) 0 P ops Q' l a w → wpAnyIn (Fw ro) 0 P md ops Q' l.length listed a w
  | [], _, _, _, _, _, hB, h => ⟨by simpa [Region.seqB] using hB, h⟩
  | o :: l, k, listed, a, w, hl, hB, h => by
    have h0 : ops[k]? = some o := by simpa using (hl 0).symm
    simp only [List.length_cons, Region.seqB, Bool.and_eq_true, decide_eq_true_eq] at hB
    refine ⟨fun h1 => (by rw [hB.1] at h1; cases h1), fun i hi => ?_⟩
    rw [hB.1] at hi
    have hik : i = k := by simpa using hi
    subst hik
    have hw : wpOpIn (Fw ro) 0 P ops Q' i (wpListIn (Fw ro) 0 P ops Q' l) a w := by unfold wpOpIn; simp only [h0]; exact h
    exact wpOpIn_mono (fun a' w' h' => wpAnyIn_of_seq l (i + 1) _ a' w' (fun j => by have := hl (j + 1); simpa [Nat.add_assoc, Nat.add_comm 1 j] using this) hB.2 h') hw

theorem wpIn_region_still_tail {id : Nat} {Q : Exit → Act → World → Prop} {a : Act} {w : World} {l : List Oper} (n : Nat) (hm : P.follows .mixedOrders = true) (hB : Region.lexTailB .any l.toArray n = true) (hnd : l.toArray.all (fun o => noDefer o.op) = true)
    (h : wpStill P l.toArray { w with drawn := w.drawn + 1 } (fun a' => wpListIn (Fw ro) 0 P l.toArray Q (l.drop n) a' { w with drawn := w.drawn + 1 }) (l.take n) a) : (Code.region id l.toArray true).wpIn (Fw ro) 0 P Q a w := by
  simp only [Region.lexTailB, Bool.and_eq_true, decide_eq_true_eq] at hB
  obtain ⟨⟨⟨⟨hsel, hn⟩, hs⟩, hc⟩, hlex⟩ := hB
  have hn' : n < l.length := by simpa using hn
  have htl : (l.take n).length = n := by simp; omega
  have hdl : (l.drop n).length = l.toArray.size - n := by simp
  have inv0 : HeadInv .any l.toArray n (Array.replicate l.toArray.size false) :=
    ⟨by simp, fun j oj _ hl => (by rw [getD_replicate_false] at hl; cases hl), fun t _ ht => getD_in (by simpa using ht) (getD_replicate_false _ _)⟩
  have H := wpAnyL_lex (md := .any) (g := l.toArray.size - n) hsel hs hc hn (l.take n) 0 _ a (fun j hj => by
    have hj' : j < n := by rw [htl] at hj; exact hj
    simp [hj']) (by simpa using htl) inv0 (by rw [htl]; exact hlex) h
  refine wpIn_region_any hm ?_
  have := wpAnyIn_of_head (ro := ro) (Q' := Q) (g := l.toArray.size - n) hnd (fun listed a' hL => by
    have := wpAnyIn_of_seq (ro := ro) (P := P) (md := .any) (Q' := Q) (l.drop n) n listed a' { w with drawn := w.drawn + 1 } (fun j => by simp [List.getElem?_drop]) (by rw [hdl]; exact hL.1) hL.2
    rwa [hdl] at this) _ _ _ H
  rw [htl, show n + (l.toArray.size - n) = l.toArray.size by omega] at this
  exact this
end

class Mixed (P : Program) : Prop where
  out : P.follows .mixedOrders = true

def TS (x : Cx) (ops : Array Oper) (l tail : List Oper) (Q : Exit → Act → World → Prop) (E : Env) (ρ : Hp) (L : SH) : Prop :=
  ∀ a w, Ok x.D x.N E a → Sat x.u ρ L w → wpStill x.P ops w (fun a' => wpListIn (Fw x.ro) 0 x.P ops Q tail a' w) l a

section
variable {x : Cx} {Q : Exit → Act → World → Prop} {E : Env} {ρ : Hp} {L : SH} {ops : Array Oper} {rest tail : List Oper} {ty : TypeId} {pos : String} {af : Array Edge}

theorem tc_draw {id : Nat} {l : List Oper} (n : Nat) [hm : Mixed x.P] (hB : Region.lexTailB .any l.toArray n = true) (hnd : l.toArray.all (fun o => noDefer o.op) = true) (h : TS x l.toArray (l.take n) (l.drop n) Q E ρ L) :
    TC x (.region id l.toArray true) Q E ρ L := fun a w ha hw => wpIn_region_still_tail n hm.out hB hnd (h a _ ha hw.drew)
theorem ts_nil (h : TL x ops tail Q E ρ L) : TS x ops [] tail Q E ρ L := fun a w ha hw => wpStill_nil (h a w ha hw)
theorem ts_y {d : Nat} {op : Op} {v : Value} (hy : Yl x op ty E ρ L v) (hd : Nat.blt d x.N = true)
    (k : TS x ops rest tail Q ((d, v) :: E) ρ L) : TS x ops (⟨some d, op, ty, pos, af, none⟩ :: rest) tail Q E ρ L := fun a w ha hw => by
  simp only [wpStill, Region.wanted, if_true, Oper.still, hy a w _ _ _ _ ha hw, Oper.stillUpon_value]
  exact k _ _ (ha.put (Nat.le_of_ble_eq_true hd) v) hw
theorem ts_want {d : Option Nat} {op : Op} {j t : Nat} {b : Bool} (hj : (ops[j]?).bind (·.dst) = some t) (he : lk E t = some (.bool b))
    (k : TS x ops (⟨d, op, ty, pos, af, none⟩ :: rest) tail Q E ρ L) : TS x ops (⟨d, op, ty, pos, af, some (j, b)⟩ :: rest) tail Q E ρ L := fun a w ha hw => by
  have hy : yielded ops a.tmps j = some b := by
    unfold yielded
    rw [hj]
    simp [ha.get t _ he]
  have h := k a w ha hw
  simp only [wpStill, Region.wanted, if_true] at h
  simp only [wpStill, Region.wanted, hy, beq_self_eq_true, if_true]
  exact h
theorem ts_skip {d : Nat} {op : Op} {j t : Nat} {b c : Bool} (hj : (ops[j]?).bind (·.dst) = some t) (he : lk E t = some (.bool b)) (hbc : (b == c) = false) (hd : Nat.blt d x.N = true)
    (k : TS x ops rest tail Q ((d, undef) :: E) ρ L) : TS x ops (⟨some d, op, ty, pos, af, some (j, c)⟩ :: rest) tail Q E ρ L := fun a w ha hw => by
  have hy : yielded ops a.tmps j = some b := by
    unfold yielded
    rw [hj]
    simp [ha.get t _ he]
  have hne : ¬ (some b == some c) = true := by cases b <;> cases c <;> simp_all
  simp only [wpStill, Region.wanted, hy, hne]
  exact k _ _ (ha.put (Nat.le_of_ble_eq_true hd) undef) hw
theorem ts_guard {d : Option Nat} {op : Op} {j t : Nat} {b c : Bool} (hj : (ops[j]?).bind (·.dst) = some t) (he : lk E t = some (.bool b))
    (h1 : b = c → TS x ops (⟨d, op, ty, pos, af, some (j, c)⟩ :: rest) tail Q ((t, .bool c) :: E) ρ L)
    (h2 : b = !c → TS x ops (⟨d, op, ty, pos, af, some (j, c)⟩ :: rest) tail Q ((t, .bool !c) :: E) ρ L) :
    TS x ops (⟨d, op, ty, pos, af, some (j, c)⟩ :: rest) tail Q E ρ L := fun a w ha hw => by
  have key : ∀ e : Bool, b = e → Ok x.D x.N ((t, .bool e) :: E) a := fun e hbe => ha.le (EnvLe.cons (by rw [he, hbe]) (EnvLe.refl E))
  by_cases hb : b = c
  · exact h1 hb a w (key c hb) hw
  · have hb' : b = !c := by cases b <;> cases c <;> simp_all
    exact h2 hb' a w (key _ hb') hw
end

/-! ## a slice that is appended to -/
structure OwnS (v : Value) (n : Nat) (xs sp : List Value) (sz : Nat) : Prop where
  out : (v = .slice none 0 0 ∧ n = 0 ∧ xs = [] ∧ sp = []) ∨ ∃ b cap, v = .slice (some ⟨b, 0, none⟩) n cap ∧ xs.length = n * sz ∧ xs.length + sp.length = cap * sz ∧ n ≤ cap
def ownC (v : Value) (xs sp : List Value) (T : TypeId) : List (Nat × Obj) :=
  match v with
  | .slice (some a) _ _ => [(a.block, .cells ⟨xs ++ sp⟩ T (0, 0))]
  | _ => []
theorem OwnS.nil (sz : Nat) : OwnS (.slice none 0 0) 0 [] [] sz := ⟨.inl ⟨rfl, rfl, rfl, rfl⟩⟩
theorem OwnS.len {v n xs sp sz} (h : OwnS v n xs sp sz) : ∃ a cap, v = .slice a n cap ∧ xs.length = n * sz := by
  rcases h.out with ⟨rfl, rfl, rfl, rfl⟩ | ⟨b, cap, rfl, h1, h2, h3⟩
  · exact ⟨none, 0, rfl, by simp⟩
  · exact ⟨_, cap, rfl, h1⟩

def Src (x : Cx) (ρ : Hp) (L : SH) (b off : Nat) (ys : List Value) : Prop := ∀ w, Sat x.u ρ L w → ∀ j c, ys[j]? = some c → w.cell? ⟨b, off + j, none⟩ = some c
section
variable {x : Cx} {Q : Exit → Act → World → Prop} {E : Env} {ρ : Hp} {L L1 : SH} {ops : Array Oper} {rest tail : List Oper} {ty : TypeId} {pos : String} {af : Array Edge}
theorem cell_row {w : World} {b off n : Nat} {l ys : List Value} {T : TypeId} {fr : Nat × Nat} (hb : w.heap[b]? = some (.cells ⟨l⟩ T fr)) (h : (l.drop off).take n = ys) (j : Nat) (c : Value) (hj : ys[j]? = some c) : w.cell? ⟨b, off + j, none⟩ = some c := by
  simp only [World.cell?, hb, Option.isSome_none, Bool.false_eq_true, if_false]
  rw [← h] at hj
  have hlt : j < n := by have := (List.getElem?_eq_some_iff.1 hj).1; simp at this; omega
  rw [List.getElem?_take_of_lt hlt, List.getElem?_drop] at hj
  simpa using hj
theorem Src.find {b off n : Nat} {l ys : List Value} {T : TypeId} {fr : Nat × Nat} [hF : Find b L (.cells ⟨l⟩ T fr)] (h : (l.drop off).take n = ys) : Src x ρ L b off ys :=
  fun w hw j c hj => cell_row (hw.find hF) h j c hj
theorem Src.imm {b off n : Nat} {l ys : List Value} {T : TypeId} {fr : Nat × Nat} (hF : ρ b = some (.cells ⟨l⟩ T fr)) (h : (l.drop off).take n = ys) : Src x ρ L b off ys :=
  fun w hw j c hj => cell_row (hw.imm _ _ hF) h j c hj

theorem stc_end (xs sp ys : List Value) (h : ys.length ≤ sp.length) : stc (xs ++ sp) xs.length ys = (xs ++ ys) ++ sp.drop ys.length := by
  unfold stc
  rw [List.take_left]
  have : List.drop (xs.length + ys.length) (xs ++ sp) = sp.drop ys.length := by rw [List.drop_append]; simp
  rw [this]

theorem tl_append {d t e sz by' n m bx ox cx : Nat} {s y : Operand} {v z : Value} {xs sp ys : List Value} [hS : TySlice x.P t e] [hZ : TySz x.P e sz] [hB : TyBytes x.P e by'] [hz : TyZero x.P e z]
    (hs : ev E s = some v) (hy : ev E y = some (.slice (some ⟨bx, ox, none⟩) m cx)) (hown : OwnS v n xs sp sz) [hR : Rem (ownC v xs sp e) L L1] (hsrc : Src x ρ L1 bx ox ys) (hlen : ys.length = m * sz)
    (h1 : ys.all (·.oneCell') = true) (h0 : 0 < m) (hzs : z.cells.toList.length = sz) (hb : (n + m) * by' ≤ 140737488355328) (hm : n + m ≤ 9223372036854775807) (hd : Nat.blt d x.N = true)
    (k : ∀ v' sp', OwnS v' (n + m) (xs ++ ys) sp' sz → TL x ops rest Q ((d, v') :: E) ρ (ownC v' (xs ++ ys) sp' e :: L1)) :
    TL x ops (⟨some d, .call { callee := .builtin .append, args := #[s, y], argTypes := #[t, t] }, ty, pos, af, none⟩ :: rest) Q E ρ L := fun a w ha hw => by
  refine wpListIn_intro rfl rfl ?_
  have hw' := hw.perm (L' := ownC v xs sp e :: L1) (by simpa using hR.out)
  have hwL : Sat x.u ρ L1 w := hw'.sub (by simp)
  obtain ⟨i, g1, g2⟩ := hZ.out
  obtain ⟨i2, g3, g4⟩ := hB.out
  obtain ⟨i3, g5, g6⟩ := hz.out
  rw [g1] at g3 g5
  cases g3; cases g5
  subst g2; subst g4
  have hzs' : z.cells.size = i.size := by simpa using hzs
  have hcells : ∀ j c, ys[j]? = some c → w.cell? ((⟨bx, ox, none⟩ : Addr).add j) = some c := fun j c hj => by rw [addr_add]; exact hsrc w hwL j c hj
  have hone : ∀ c ∈ ys, c.oneCell' = true := fun c hc => List.all_eq_true.1 h1 c hc
  have hexec : ∀ (v' : Value) (w' : World), (Builtin.append_ #[t, t] ty #[v, .slice (some ⟨bx, ox, none⟩) m cx]).run x.P w = .ok v' w' →
      (execOp a.eval ⟨some d, .call { callee := .builtin .append, args := #[s, y], argTypes := #[t, t] }, ty, pos, af, none⟩).run x.P w = .ok (.value v') w' := fun v' w' hr => by
    simp only [execOp, resolve, Sem.run_bind, Sem.run_pure, Result.andThen_ok, invoke, builtin]
    have hargs : Array.map a.eval #[s, y] = #[v, .slice (some ⟨bx, ox, none⟩) m cx] := by simp [ha.eval hs, ha.eval hy]
    rw [hargs, hr]
    rfl
  have hgc : ∀ (w : World) (need old : Nat), need ≤ grownCap w need old e := fun w need old => by simp only [grownCap, Question.cut]; omega
  have hzl : ∀ c, (Builtin.zeroCells z.cells c).toList.length = c * i.size := fun c => by
    have := size_zeroCells z.cells c
    rw [hzs'] at this; simpa using this
  rcases hown.out with ⟨rfl, rfl, rfl, rfl⟩ | ⟨b, cap, rfl, e1, e2, e3⟩
  · -- nil
    have hrun := run_append_nil (P := x.P) (w := w) t ty e i z hS.out g1 g6 ⟨bx, ox, none⟩ m cx ys hlen hcells h0 (by omega) (by
      have hfit : Builtin.nextslicecap (0 + m) 0 * i.bytes ≤ 281474976710656 := growslice_fits (by omega) hb
      have : Builtin.nextslicecap m 0 = m := nextslicecap_zero h0
      simp only [Nat.zero_add, this] at hfit; exact hfit)
    rw [hexec _ _ hrun]
    have hs2 := (hwL.drew).new (.cells (ys.toArray ++ Builtin.zeroCells z.cells (grownCap w m 0 e - m)) e (0, 0))
    have hg := hgc w m 0
    refine k (.slice (some ⟨w.heap.size, 0, none⟩) (0 + m) (grownCap w m 0 e)) (Builtin.zeroCells z.cells (grownCap w m 0 e - m)).toList ?_ _ _ (by
      have := ha.put (Nat.le_of_ble_eq_true hd) (.slice (some ⟨w.heap.size, 0, none⟩) m (grownCap w m 0 e)); simpa using this) ?_
    · refine ⟨.inr ⟨w.heap.size, grownCap w m 0 e, rfl, by simpa using hlen, ?_, by omega⟩⟩
      rw [hzl]; simp only [List.nil_append, hlen, ← Nat.add_mul]
      rw [show m + (grownCap w m 0 e - m) = grownCap w m 0 e by omega]
    · have : ownC (.slice (some ⟨w.heap.size, 0, none⟩) (0 + m) (grownCap w m 0 e)) ([] ++ ys) (Builtin.zeroCells z.cells (grownCap w m 0 e - m)).toList e = [(w.heap.size, .cells (ys.toArray ++ Builtin.zeroCells z.cells (grownCap w m 0 e - m)) e (0, 0))] := by
        simp only [ownC, List.nil_append]
        congr 3
        apply Array.ext'; simp
      rw [this]
      exact hs2
  · have hbk := hw'.here (b, .cells ⟨xs ++ sp⟩ e (0, 0)) (by simp [ownC])
    by_cases hroom : n + m ≤ cap
    · -- there is room
      have hylen : ys.length ≤ sp.length := by
        have : (n + m) * i.size ≤ cap * i.size := Nat.mul_le_mul_right _ hroom
        rw [Nat.add_mul] at this; omega
      have hrun := run_append_room (P := x.P) w t ty e i hS.out g1 b n cap ⟨xs ++ sp⟩ hbk ⟨bx, ox, none⟩ m cx ys hlen hcells hone hroom (by simp; omega)
      rw [hexec _ _ hrun]
      have hset : w.setRow b (List.take (n * i.size) (xs ++ sp) ++ ys ++ List.drop (n * i.size + ys.length) (xs ++ sp)).toArray = putB w b (.cells ⟨(xs ++ ys) ++ sp.drop ys.length⟩ e (0, 0)) := by
        rw [setRow_eq hbk]
        have := stc_end xs sp ys hylen
        unfold stc at this
        rw [← e1, this]
      have hs2 := hw'.put (.cells ⟨(xs ++ ys) ++ sp.drop ys.length⟩ e (0, 0))
      refine k (.slice (some ⟨b, 0, none⟩) (n + m) cap) (sp.drop ys.length) ⟨.inr ⟨b, cap, rfl, by simp [Nat.add_mul]; omega, by simp; omega, hroom⟩⟩ _ _ (ha.put (Nat.le_of_ble_eq_true hd) _) ?_
      simp only [Array.toList] at hset ⊢
      rw [hset]
      exact hs2
    · -- a new row
      have hold : ∀ j c, xs[j]? = some c → w.cell? ((⟨b, 0, none⟩ : Addr).add j) = some c := fun j c hj => by
        rw [addr_add]
        simp only [World.cell?, hbk, Option.isSome_none, Bool.false_eq_true, if_false, Nat.zero_add]
        have hlt := (List.getElem?_eq_some_iff.1 hj).1
        simp only [List.getElem?_toArray]
        rw [List.getElem?_append_left hlt]; exact hj
      have hrun := run_append_grow (P := x.P) (w := w) t ty e i z hS.out g1 g6 ⟨b, 0, none⟩ n cap xs e1 hold ⟨bx, ox, none⟩ m cx ys hlen hcells (by omega) (by omega) (growslice_fits (by omega) hb)
      rw [hexec _ _ hrun]
      have hg := hgc w (n + m) cap
      have hs2 := (hwL.drew).new (.cells (xs.toArray ++ ys.toArray ++ Builtin.zeroCells z.cells (grownCap w (n + m) cap e - (n + m))) e (0, 0))
      refine k (.slice (some ⟨w.heap.size, 0, none⟩) (n + m) (grownCap w (n + m) cap e)) (Builtin.zeroCells z.cells (grownCap w (n + m) cap e - (n + m))).toList ?_ _ _ (ha.put (Nat.le_of_ble_eq_true hd) _) ?_
      · refine ⟨.inr ⟨w.heap.size, grownCap w (n + m) cap e, rfl, by simp [Nat.add_mul]; omega, ?_, by omega⟩⟩
        rw [hzl]; simp only [List.length_append, hlen, e1, ← Nat.add_mul]
        rw [show n + m + (grownCap w (n + m) cap e - (n + m)) = grownCap w (n + m) cap e by omega]
      · have : ownC (.slice (some ⟨w.heap.size, 0, none⟩) (n + m) (grownCap w (n + m) cap e)) (xs ++ ys) (Builtin.zeroCells z.cells (grownCap w (n + m) cap e - (n + m))).toList e = [(w.heap.size, .cells (xs.toArray ++ ys.toArray ++ Builtin.zeroCells z.cells (grownCap w (n + m) cap e - (n + m))) e (0, 0))] := by
          simp only [ownC]
          congr 3
          apply Array.ext'; simp
        rw [this]
        exact hs2
end
end Go.Proofs.E

namespace Go.Proofs.E
open Go
set_option linter.unusedVariables false
set_option linter.unusedSimpArgs false

section
variable {P : Program} {ops : Array Oper} {md : Region.Mode} {S : World → Prop} {ro : Option Nat} {Q : Exit → Act → World → Prop}

theorem YieldsIf.wpOpInN {i : Nat} {o : Oper} {v : Value} {a : Act} (hn : noDefer o.op = true) (hi : ops[i]? = some o) (hy : YieldsIf P ops S o v a)
    {K : Act → World → Prop} {w : World} (hS : S w) (h : K (a.put o.dst v) w) : wpOpIn (Fw ro) 0 P ops Q i K a w := by
  unfold wpOpIn
  simp only [hi]
  rcases hy with ⟨hw, hv⟩ | ⟨hw, rfl⟩
  · simp only [hw, if_true]
    refine ⟨fun _ _ => trivial, ?_⟩
    rw [show (Fw ro).round = ro from rfl, semAt_nd hn, hv w hS]
    exact h
  · simp only [hw, Bool.false_eq_true, if_false]; exact ⟨fun _ _ => trivial, h⟩

theorem wpOpIn_putIf {j : Nat} {oi oj : Oper} {v : Value} (hnj : noDefer oj.op = true) (hj : ops[j]? = some oj) (hap : oi.apart ops oj = true)
    (hsi : ∀ cs b, oi.op ≠ .select cs b) (hsj : ∀ cs b, oj.op ≠ .select cs b)
    (hQ : ∀ c a w, ¬ Q (.panic c) a w) {K : Act → World → Prop} {a : Act} {w : World}
    (hy : YieldsIf P ops S oi v a) (h : wpOpIn (Fw ro) 0 P ops Q j K (a.put oi.dst v) w) :
    wpOpIn (Fw ro) 0 P ops Q j (fun a' w' => YieldsIf P ops S oi v a' ∧ K (a'.put oi.dst v) w') a w := by
  obtain ⟨h1, h2, h3⟩ := Oper.apart_spec hap
  have keep : ∀ (a : Act), YieldsIf P ops S oi v a → ∀ u, YieldsIf P ops S oi v (a.put oj.dst u) := fun a hy u =>
    hy.of_same (execOp_put oi hsi a oj.dst u h3) (wanted_put oi a oj.dst u h3)
  have keepD : ∀ d, YieldsIf P ops S oi v { a with defers := d :: a.defers } := fun d => hy.of_same rfl rfl
  unfold wpOpIn at *
  simp only [hj] at *
  rw [wanted_put oj a oi.dst v h1] at h
  split
  · rename_i hw
    simp only [hw, if_true] at h
    unfold Oper.wpIn at *
    refine ⟨fun _ _ => trivial, ?_⟩
    have h := h.2
    rw [semAt_nd hnj, execOp_put oj hsj a oi.dst v h1] at h
    rw [semAt_nd hnj]
    generalize (execOp a.eval oj).run P w = r at *
    cases r with
    | ok x w' =>
      cases x <;> simp only [Oper.uponIn] at h ⊢
      case value u => exact ⟨keep a hy u, by rw [← Act.put_comm a v u h2]; exact h⟩
      case skip => exact ⟨keep a hy _, by rw [← Act.put_comm a v undef h2]; exact h⟩
      case defer d =>
        refine ⟨keep _ (keepD d) _, ?_⟩
        rw [← Act.put_comm _ v undef h2, ← Act.put_defers]
        exact h
      case enter f args =>
        refine ⟨h.1, CallsIn.mono h.2 fun e w'' he => ?_⟩
        cases e with
        | returned u => exact ⟨keep a hy u, by rw [← Act.put_comm a v u h2]; exact he⟩
        | panicked c => exact absurd he (hQ _ _ _)
        | outgrown => exact he
      case row row args => exact ⟨h.1, RowsIn.mono h.2 fun u w'' he => ⟨keep a hy u, by rw [← Act.put_comm a v u h2]; exact he⟩⟩
      case round l f tmps assign body =>
        refine ⟨h.1, RoundIn.mono h.2 fun e w'' he => ?_⟩
        cases e with
        | returned u => exact ⟨keep a hy u, by rw [← Act.put_comm a v u h2]; exact he⟩
        | panicked c => exact absurd he (hQ _ _ _)
        | outgrown => exact he
    | halt x w' =>
      cases x <;> simp only [Oper.uponIn] at h ⊢
      case panic u => exact absurd h (hQ _ _ _)
  · rename_i hw
    simp only [hw] at h
    exact ⟨fun _ _ => trivial, keep a hy _, by rw [← Act.put_comm a v undef h2]; exact h.2⟩

/-- whatever order is picked from here on, and `S` holds behind every operation that is carried out -/
def wpAnyG (ro : Option Nat) (P : Program) (md : Region.Mode) (ops : Array Oper) (Q : Exit → Act → World → Prop) (S : World → Prop) : Nat → Array Bool → Act → World → Prop
  | 0, listed, a, w => Region.ready md ops listed = [] ∧ Q .normal a w
  | fuel + 1, listed, a, w =>
    (Region.ready md ops listed = [] → Q .normal a w) ∧
    ∀ i ∈ Region.ready md ops listed, wpOpIn (Fw ro) 0 P ops Q i (fun a' w' => S w' ∧ wpAnyG ro P md ops Q S fuel (listed.setIfInBounds i true) a' w') a w
theorem wpAnyIn_of_G : ∀ (fuel : Nat) (listed : Array Bool) (a : Act) (w : World), wpAnyG ro P md ops Q S fuel listed a w → wpAnyIn (Fw ro) 0 P md ops Q fuel listed a w
  | 0, _, _, _, h => h
  | fuel + 1, _, _, _, h => ⟨h.1, fun i hi => wpOpIn_mono (fun a' w' h' => wpAnyIn_of_G fuel _ a' w' h'.2) (h.2 i hi)⟩

theorem wpAnyG_first {i : Nat} {oi : Oper} {v : Value} (hnd : ops.all (fun o => noDefer o.op) = true) (hi : ops[i]? = some oi) (hsel : ∀ (j : Nat) (o : Oper) cs b, ops[j]? = some o → o.op ≠ .select cs b)
    (hQ : ∀ c a w, ¬ Q (.panic c) a w) :
    ∀ (fuel : Nat) (listed : Array Bool) (a : Act) (w : World),
      (∀ j oj, ops[j]? = some oj → j ≠ i → listed.getD j true = false → (∀ e ∈ oj.after, Region.binds md e = true → e.on ≠ i) → oi.apart ops oj = true) →
      i ∈ Region.ready md ops listed → YieldsIf P ops S oi v a → S w →
      wpAnyG ro P md ops Q S fuel (listed.setIfInBounds i true) (a.put oi.dst v) w → wpAnyG ro P md ops Q S (fuel + 1) listed a w := by
  have hnd' : ∀ (j : Nat) (o : Oper), ops[j]? = some o → noDefer o.op = true := fun j o ho =>
    (Array.all_eq_true_iff_forall_mem.1 hnd) o (Array.mem_of_getElem? ho)
  intro fuel
  induction fuel with
  | zero =>
    intro listed a w _ hr hy hS H
    refine ⟨fun h => (by rw [h] at hr; cases hr), fun j hj => ?_⟩
    by_cases hji : j = i
    · subst hji; exact YieldsIf.wpOpInN (hnd' _ _ hi) hi hy hS ⟨hS, H⟩
    · have := ready_mono hj hji
      rw [H.1] at this
      cases this
  | succ fuel ih =>
    intro listed a w hfree hr hy hS H
    refine ⟨fun h => (by rw [h] at hr; cases hr), fun j hj => ?_⟩
    by_cases hji : j = i
    · subst hji; exact YieldsIf.wpOpInN (hnd' _ _ hi) hi hy hS ⟨hS, H⟩
    · have h1 := H.2 j (ready_mono hj hji)
      obtain ⟨hjun, oj, hoj, hall⟩ := mem_ready.1 hj
      have hnot : ∀ e ∈ oj.after, Region.binds md e = true → e.on ≠ i := fun e he hb heq => by
        have h1 := hall e he hb
        have h0 := (mem_ready.1 hr).1
        rw [heq] at h1
        rcases Nat.lt_or_ge i listed.size with h' | h'
        · simp [h'] at h0 h1; rw [h0] at h1; cases h1
        · simp [Array.getElem?_eq_none h'] at h1
      have h2 := wpOpIn_putIf (hnd' _ _ hoj) hoj (hfree j oj hoj hji hjun hnot) (fun cs b => hsel i oi cs b hi) (fun cs b => hsel j oj cs b hoj) hQ hy h1
      have hfree' : ∀ k ok, ops[k]? = some ok → k ≠ i → (listed.setIfInBounds j true).getD k true = false →
          (∀ e ∈ ok.after, Region.binds md e = true → e.on ≠ i) → oi.apart ops ok = true := fun k ok hk hki hun hno => by
        refine hfree k ok hk hki ?_ hno
        by_cases hjk : j = k
        · subst hjk; exact hjun
        · rw [getD_set_ne true hjk] at hun; exact hun
      refine wpOpIn_mono (fun a' w' h3 => ⟨h3.2.1, ih (listed.setIfInBounds j true) a' w' hfree' (ready_mono hr (Ne.symm hji)) h3.1 h3.2.1 ?_⟩) h2
      rw [Array.setIfInBounds_comm _ _ hji]
      exact h3.2.2
end

/-! ## a region in any order -/
/-- the normal end alone -/
def QN (Q : Exit → Act → World → Prop) : Exit → Act → World → Prop := fun e a w => match e with | .normal => Q .normal a w | _ => False
def TR (x : Cx) (l : List Oper) (S : World → Prop) (fuel : Nat) (listed : List Bool) (Q : Exit → Act → World → Prop) (E : Env) (ρ : Hp) (L : SH) : Prop :=
  ∀ a w, Ok x.D x.N E a → Sat x.u ρ L w → S w → wpAnyG x.ro x.P .any l.toArray (QN Q) S fuel ⟨listed⟩ a w

def YS (x : Cx) (S : World → Prop) (op : Op) (ty : TypeId) (E : Env) (v : Value) : Prop :=
  ∀ a w dst pos after guard, Ok x.D x.N E a → S w → (execOp a.eval ⟨dst, op, ty, pos, after, guard⟩).run x.P w = .ok (.value v) w
/-- what stays through a region -/
def Stays (x : Cx) (ρ : Hp) (Ls : SH) (w : World) : Prop := ∃ ρ', ρ.le ρ' ∧ Sat x.u ρ' Ls w

def lset : List Bool → Nat → List Bool
  | [], _ => []
  | b :: r, 0 => true :: r
  | b :: r, n + 1 => b :: lset r n
theorem lset_eq : ∀ (l : List Bool) (n : Nat), lset l n = l.set n true
  | [], n => by simp [lset]
  | b :: r, 0 => rfl
  | b :: r, n + 1 => by simp [lset, lset_eq r n]
def takeB (l : List Oper) (listed : List Bool) (i : Nat) : Bool :=
  Region.noSelect l.toArray && l.toArray.all (fun o => noDefer o.op) && Region.free .any l.toArray ⟨listed⟩ i && (Region.ready .any l.toArray ⟨listed⟩).contains i

/-- behind an operation that is no quiet one -/
def QR (x : Cx) (l : List Oper) (S : World → Prop) (fuel : Nat) (listed : List Bool) (Q : Exit → Act → World → Prop) : Exit → Act → World → Prop :=
  fun e a w => match e with | .normal => S w ∧ wpAnyG x.ro x.P .any l.toArray (QN Q) S fuel ⟨listed⟩ a w | _ => False

section
variable {x : Cx} {Q : Exit → Act → World → Prop} {E : Env} {ρ : Hp} {L : SH} {S : World → Prop} {l : List Oper} {listed : List Bool} {fuel : Nat}

theorem tc_any {id : Nat} (S : World → Prop) [hm : Mixed x.P] (hS : ∀ w, Sat x.u ρ L w → S w) (h : TR x l S l.length (List.replicate l.length false) Q E ρ L) : TC x (.region id l.toArray true) Q E ρ L := fun a w ha hw => by
  refine wpIn_mono (Q := QN Q) ?_ (fun e a w q => by cases e <;> first | exact q | exact q.elim)
  refine wpIn_region_any hm.out ?_
  have := h a _ ha hw.drew (hS _ hw.drew)
  have := wpAnyIn_of_G _ _ _ _ this
  simpa using this
theorem tr_done (hr : Region.ready .any l.toArray ⟨listed⟩ = []) (h : TE x .normal Q E ρ L) : TR x l S fuel listed Q E ρ L := fun a w ha hw hS => by
  cases fuel with
  | zero => exact ⟨hr, h a w ha hw⟩
  | succ n => exact ⟨fun _ => h a w ha hw, by rw [hr]; simp⟩
theorem tr_take (i : Nat) {d : Nat} {op : Op} {ty : TypeId} {pos : String} {af : Array Edge} {v : Value} (hb : takeB l listed i = true) (hi : l[i]? = some ⟨some d, op, ty, pos, af, none⟩) (hy : YS x S op ty E v) (hd : Nat.blt d x.N = true)
    (k : TR x l S fuel (lset listed i) Q ((d, v) :: E) ρ L) : TR x l S (fuel + 1) listed Q E ρ L := fun a w ha hw hS => by
  simp only [takeB, Bool.and_eq_true] at hb
  obtain ⟨⟨⟨h1, h2⟩, h3⟩, h4⟩ := hb
  have hi' : l.toArray[i]? = some ⟨some d, op, ty, pos, af, none⟩ := by simpa using hi
  refine wpAnyG_first (v := v) h2 hi' (Region.noSelect_spec h1) (fun _ _ _ h => h) fuel _ a w (Region.free_spec hi' h3) (by simpa using h4) (.inl ⟨by simp [Region.wanted], fun w hS => hy a w _ _ _ _ ha hS⟩) hS ?_
  have := k _ w (ha.put (Nat.le_of_ble_eq_true hd) v) hw hS
  rw [lset_eq] at this
  simpa using this
theorem tr_want (i : Nat) {d : Nat} {op : Op} {ty : TypeId} {pos : String} {af : Array Edge} {j t : Nat} {b : Bool} {v : Value} (hb : takeB l listed i = true) (hi : l[i]? = some ⟨some d, op, ty, pos, af, some (j, b)⟩) (hj : (l[j]?).bind (·.dst) = some t) (he : lk E t = some (.bool b))
    (hy : YS x S op ty E v) (hd : Nat.blt d x.N = true)
    (k : TR x l S fuel (lset listed i) Q ((d, v) :: E) ρ L) : TR x l S (fuel + 1) listed Q E ρ L := fun a w ha hw hS => by
  simp only [takeB, Bool.and_eq_true] at hb
  obtain ⟨⟨⟨h1, h2⟩, h3⟩, h4⟩ := hb
  have hyl : yielded l.toArray a.tmps j = some b := by
    unfold yielded
    simp only [List.getElem?_toArray]
    rw [hj]; simp [ha.get t _ he]
  have hi' : l.toArray[i]? = some ⟨some d, op, ty, pos, af, some (j, b)⟩ := by simpa using hi
  refine wpAnyG_first (v := v) h2 hi' (Region.noSelect_spec h1) (fun _ _ _ h => h) fuel _ a w (Region.free_spec hi' h3) (by simpa using h4) (.inl ⟨by simp [Region.wanted, hyl], fun w hS => hy a w _ _ _ _ ha hS⟩) hS ?_
  have := k _ w (ha.put (Nat.le_of_ble_eq_true hd) v) hw hS
  rw [lset_eq] at this
  simpa using this
theorem tr_skip (i : Nat) {d : Nat} {op : Op} {ty : TypeId} {pos : String} {af : Array Edge} {j t : Nat} {b c : Bool} (hb : takeB l listed i = true) (hi : l[i]? = some ⟨some d, op, ty, pos, af, some (j, c)⟩) (hj : (l[j]?).bind (·.dst) = some t) (he : lk E t = some (.bool b)) (hbc : (b == c) = false)
    (hd : Nat.blt d x.N = true)
    (k : TR x l S fuel (lset listed i) Q ((d, undef) :: E) ρ L) : TR x l S (fuel + 1) listed Q E ρ L := fun a w ha hw hS => by
  simp only [takeB, Bool.and_eq_true] at hb
  obtain ⟨⟨⟨h1, h2⟩, h3⟩, h4⟩ := hb
  have hyl : yielded l.toArray a.tmps j = some b := by
    unfold yielded
    simp only [List.getElem?_toArray]
    rw [hj]; simp [ha.get t _ he]
  have hi' : l.toArray[i]? = some ⟨some d, op, ty, pos, af, some (j, c)⟩ := by simpa using hi
  have hne : (some b == some c) = false := by cases b <;> cases c <;> simp_all
  refine wpAnyG_first (v := undef) h2 hi' (Region.noSelect_spec h1) (fun _ _ _ h => h) fuel _ a w (Region.free_spec hi' h3) (by simpa using h4) (.inr ⟨by simp only [Region.wanted, hyl, hne], rfl⟩) hS ?_
  have := k _ w (ha.put (Nat.le_of_ble_eq_true hd) undef) hw hS
  rw [lset_eq] at this
  simpa using this
theorem tr_guard {t : Nat} {b : Bool} (he : lk E t = some (.bool b)) (h1 : b = true → TR x l S fuel listed Q ((t, .bool true) :: E) ρ L) (h2 : b = false → TR x l S fuel listed Q ((t, .bool false) :: E) ρ L) :
    TR x l S fuel listed Q E ρ L := fun a w ha hw hS => by
  have key : ∀ e : Bool, b = e → Ok x.D x.N ((t, .bool e) :: E) a := fun e hbe => ha.le (EnvLe.cons (by rw [he, hbe]) (EnvLe.refl E))
  cases hb : b with
  | true => exact h1 hb a w (key _ hb) hw hS
  | false => exact h2 hb a w (key _ hb) hw hS
/-- one operation that may come up, by the list's own steps -/
def OneOf (x : Cx) (l : List Oper) (S : World → Prop) (fuel : Nat) (listed : List Bool) (Q : Exit → Act → World → Prop) (E : Env) (ρ : Hp) (L : SH) (i : Nat) : Prop :=
  ∃ o, l[i]? = some o ∧ TL x l.toArray [o] (QR x l S fuel (lset listed i) Q) E ρ L
theorem tr_step {is : List Nat} (hr : Region.ready .any l.toArray ⟨listed⟩ = is) (hne : is ≠ []) (h : ∀ i ∈ is, OneOf x l S fuel listed Q E ρ L i) : TR x l S (fuel + 1) listed Q E ρ L := fun a w ha hw hS => by
  refine ⟨fun h0 => absurd (hr ▸ h0) hne, fun i hi => ?_⟩
  rw [hr] at hi
  obtain ⟨o, ho, hT⟩ := h i hi
  have ho' : l.toArray[i]? = some o := by simpa using ho
  have := hT a w ha hw
  unfold wpOpIn
  simp only [ho']
  simp only [wpListIn] at this
  rw [lset_eq] at this
  have e : (⟨listed⟩ : Array Bool).setIfInBounds i true = ⟨listed.set i true⟩ := by simp
  rw [e]
  by_cases hw' : Region.wanted o (yielded l.toArray a.tmps) = true
  · simp only [hw', if_true] at this ⊢
    refine ⟨this.1, ?_⟩
    have h2 := this.2
    generalize (o.semAt (Fw x.ro).round a.eval).run x.P w = r at *
    cases r with
    | ok n w' =>
      cases n <;> simp only [Oper.uponIn] at h2 ⊢ <;> try exact h2
      all_goals exact ⟨h2.1, h2.2.mono fun e w'' he => by cases e <;> first | exact he | exact he.elim | exact (let ⟨_, _, q⟩ := he; q.elim)⟩
    | halt h w' => cases h <;> simp only [Oper.uponIn] at h2 ⊢ <;> first | exact h2 | exact h2.elim
  · simp only [hw'] at this ⊢
    exact this
theorem tr_step1 {i : Nat} {o : Oper} (hr : Region.ready .any l.toArray ⟨listed⟩ = [i]) (ho : l[i]? = some o) (h : TL x l.toArray [o] (QR x l S fuel (lset listed i) Q) E ρ L) : TR x l S (fuel + 1) listed Q E ρ L :=
  tr_step hr (by simp) (fun j hj => by have : j = i := by simpa using hj
                                       subst this; exact ⟨o, ho, h⟩)
theorem tr_step2 {i j : Nat} {o p : Oper} (hr : Region.ready .any l.toArray ⟨listed⟩ = [i, j]) (ho : l[i]? = some o) (hp : l[j]? = some p) (h : TL x l.toArray [o] (QR x l S fuel (lset listed i) Q) E ρ L)
    (h' : TL x l.toArray [p] (QR x l S fuel (lset listed j) Q) E ρ L) : TR x l S (fuel + 1) listed Q E ρ L :=
  tr_step hr (by simp) (fun k hk => by
    rcases List.mem_cons.1 hk with rfl | hk
    · exact ⟨o, ho, h⟩
    · have : k = j := by simpa using hk
      subst this; exact ⟨p, hp, h'⟩)
theorem te_any (hS : ∀ w, Sat x.u ρ L w → S w) (h : TR x l S fuel listed Q E ρ L) : TE x .normal (QR x l S fuel listed Q) E ρ L := fun a w ha hw => ⟨hS w hw, h a w ha hw (hS w hw)⟩

theorem ys_of {op ty v} {Ls : SH} (h : ∀ ρ', ρ.le ρ' → Yl x op ty E ρ' Ls v) : YS x (Stays x ρ Ls) op ty E v := fun a w dst pos after guard ha ⟨ρ', hle, hw⟩ => h ρ' hle a w dst pos after guard ha hw
theorem stays_refl : ∀ w, Sat x.u ρ L w → Stays x ρ L w := fun w hw => ⟨ρ, Hp.le_refl _, hw⟩
theorem stays_of {ρ0 : Hp} {Ls R : SH} (hle : ρ0.le ρ) [hT : Take L Ls R] : ∀ w, Sat x.u ρ L w → Stays x ρ0 Ls w := fun w hw => ⟨ρ, hle, (hw.perm hT.out).sub (by simp)⟩
theorem wpAnyG_mono {ro : Option Nat} {P : Program} {md : Region.Mode} {ops : Array Oper} {Q : Exit → Act → World → Prop} {S S' : World → Prop} (h : ∀ w, S' w → S w) : ∀ (fuel : Nat) (listed : Array Bool) (a : Act) (w : World), wpAnyG ro P md ops Q S' fuel listed a w → wpAnyG ro P md ops Q S fuel listed a w
  | 0, _, _, _, H => H
  | fuel + 1, _, _, _, H => ⟨H.1, fun i hi => wpOpIn_mono (fun a' w' h' => ⟨h w' h'.1, wpAnyG_mono h fuel _ a' w' h'.2⟩) (H.2 i hi)⟩
/-- from here on all that there is stays -/
theorem tr_full {ρ0 : Hp} {Ls R : SH} (hle : ρ0.le ρ) (hT : Take L Ls R) (h : TR x l (Stays x ρ L) fuel listed Q E ρ L) : TR x l (Stays x ρ0 Ls) fuel listed Q E ρ L := fun a w ha hw hS => by
  refine wpAnyG_mono (S' := Stays x ρ L) ?_ fuel _ a w (h a w ha hw ⟨ρ, Hp.le_refl _, hw⟩)
  rintro w' ⟨ρ', hle', hw'⟩
  exact ⟨ρ', Hp.le_trans hle hle', (hw'.perm hT.out).sub (by simp)⟩
end
end Go.Proofs.E

namespace Go.Proofs.E
open Go
set_option linter.unusedVariables false
set_option linter.unusedSimpArgs false

/-! ## a range over a function -/
/-- what a round that was asked for comes to: it goes on, or it is the last -/
def YP (S : SH) (Jn Jx : Hp → SH → Prop) : Bool → Hp → SH → Prop := fun b ρ' L' => ∃ Lj', L' = S ++ Lj' ∧ (b = true ∧ Jn ρ' Lj' ∨ b = false ∧ Jx ρ' Lj')
/-- an iterator: `S` is what it owns and shares with the rounds; `xs` what it hands on. -/
def Iter (P : Program) (g : FuncId) (fs cs : List Value) {α : Type} (enc : α → List Value) (ρ0 : Hp) (S : SH) (xs : List α) : Prop :=
  ∀ (l : Nat) (J : List α → Hp → SH → Prop) (Jx : Hp → SH → Prop),
    (∀ pre y ρ Lj, (pre ++ [y]) <+: xs → ρ0.le ρ → J pre ρ Lj → YSpec P l (enc y) ρ (S ++ Lj) (YP S (J (pre ++ [y])) Jx)) →
    ∀ ρ Lj, ρ0.le ρ → J [] ρ Lj → Spec P g (fs ++ [.func (.yield l) ⟨[]⟩ ⟨[]⟩] ++ cs) ρ (S ++ Lj) (fun v ρ' L' => ∃ Lj', L' = S ++ Lj' ∧ (J xs ρ' Lj' ∨ Jx ρ' Lj'))

def envP : List Nat → List Value → Env → Env
  | p :: ps, v :: vs, E => envP ps vs ((p, v) :: E)
  | _, _, E => E
theorem Ok.putP {N : Nat} : ∀ (ps : List Nat) (vs : List Value) (E : Env) (tm : Array Value), ps.all (fun p => Nat.blt p N) = true → Ok [] N E { tmps := tm, defers := [] } →
    Ok [] N (envP ps vs E) { tmps := (ps.zip vs).foldl (fun tmps x => tmps.setIfInBounds x.1 x.2) tm, defers := [] }
  | [], vs, E, tm, _, h => by simpa [envP] using h
  | p :: ps, [], E, tm, _, h => by simpa [envP] using h
  | p :: ps, v :: vs, E, tm, hp, h => by
    simp only [List.all_cons, Bool.and_eq_true] at hp
    have h1 : Ok [] N ((p, v) :: E) { tmps := tm.setIfInBounds p v, defers := [] } := h.put (Nat.le_of_ble_eq_true hp.1) v
    have := Ok.putP ps vs _ _ hp.2 h1
    simpa [envP] using this

/-- the record of a loop that has been entered so -/
structure Rec (a : Array Value) (ps : Array Tmp) (assign body : Code) (r : Loop) : Prop where
  tmps : r.tmps = a
  params : r.params = ps
  assign : r.assign = assign
  body : r.body = body
def JH (l : Nat) (rec0 : Loop → Prop) (J : Hp → SH → Prop) (ρ : Hp) (Lj : SH) : Prop := ∃ r Lu, Lj = [(l, .loop r)] :: Lu ∧ r.state = .ready ∧ r.pending = none ∧ rec0 r ∧ J ρ Lu
def XH (l : Nat) (rec0 : Loop → Prop) (Jx : Code → Hp → SH → Prop) (ρ : Hp) (Lj : SH) : Prop := ∃ r Lu c, Lj = [(l, .loop r)] :: Lu ∧ r.state = .done ∧ r.pending = some c ∧ rec0 r ∧ Jx c ρ Lu

/-- what is asked at a round's end -/
def RQ (P : Program) (u : World) (ρ : Hp) (R : SH) (l : Nat) (Post : Bool → Hp → SH → Prop) : Exit → Act → World → Prop :=
  roundPost P l (fun e w' => ∃ b ρ' L', e = .returned (.bool b) ∧ ρ.le ρ' ∧ Sat u ρ' (L' ++ R) w' ∧ Post b ρ' L')
/-- between the assignment and the body -/
def KB (P : Program) (l : Nat) (body : Code) (Q : Exit → Act → World → Prop) : Act → World → Prop := fun a w =>
  ∃ w₂, (Instr.beginRound l).run P w = .ok () w₂ ∧ body.wpIn (Fw (some l)) 0 P Q a w₂
def QF : Exit → Act → World → Prop := fun _ _ _ => False

section
variable {x : Cx} {Q : Exit → Act → World → Prop} {E : Env} {ρ ρ0 : Hp} {L : SH} {l : Nat} {r : Loop}
theorem te_begin {body : Code} (hro : x.ro = some l) (hr : r.state = .ready) (h : ∀ r', r'.state = .busy → Rec r.tmps r.params r.assign r.body r' → TC x body Q E ρ ([(l, .loop r')] :: L)) :
    TE x .normal (Exit.then (KB x.P l body Q) QF) E ρ ([(l, .loop r)] :: L) := fun a w ha hw => by
  have hl := hw.here (l, .loop r) (by simp)
  refine ⟨_, run_beginRound hl hr, ?_⟩
  have := h { r with state := .busy } rfl ⟨rfl, rfl, rfl, rfl⟩ a _ ha (hw.put _)
  rw [hro] at this
  exact this

theorem sh_perm3 {c : List (Nat × Obj)} {S Lu R : SH} : (c :: (S ++ Lu ++ R)).flatten.Perm (S ++ (c :: Lu) ++ R).flatten := by
  simp only [List.flatten_cons, List.flatten_append, List.append_assoc, List.cons_append]
  rw [← List.append_assoc, ← List.append_assoc (S.flatten)]
  exact List.Perm.append_right _ List.perm_append_comm

theorem Sat.parts {u w} {L2 S R1 Lu R2 R : SH} {c : List (Nat × Obj)} (h : Sat u ρ (c :: L2) w) (k1 : Take L2 S R1) (k2 : Take R1 Lu R2) (e : Ends R2 R) : Sat u ρ (S ++ (c :: Lu) ++ R) w := by
  have h1 : Sat u ρ (c :: (S ++ Lu ++ R2)) w := h.perm (by
    simp only [List.flatten_cons]
    refine List.Perm.append_left c ?_
    refine k1.out.trans ?_
    simp only [List.flatten_append, List.append_assoc]
    exact List.Perm.append_left _ (by simpa using k2.out))
  have h2 := h1.perm sh_perm3
  refine h2.sub ?_
  simp only [List.flatten_append]
  exact List.Sublist.append (List.Sublist.refl _) e.out

theorem te_next {u : World} {R : SH} {S Lu L2 R1 R2 : SH} {tm : Array Value} {ps : Array Tmp} {assign body : Code} {J : Hp → SH → Prop} {Jx : Code → Hp → SH → Prop} (hu : x.u = u) (hle : ρ0.le ρ) (hrec : Rec tm ps assign body r) (k1 : Take L2 S R1) (k2 : Take R1 Lu R2) (e : Ends R2 R) (hJ : J ρ Lu) :
    TE x .normal (RQ x.P u ρ0 R l (YP S (JH l (Rec tm ps assign body) J) (XH l (Rec tm ps assign body) Jx))) E ρ ([(l, .loop r)] :: L2) := fun a w ha hw => by
  subst hu
  have hl := hw.here (l, .loop r) (by simp)
  refine ⟨_, _, run_endRound none hl, true, ρ, S ++ ([(l, .loop { r with state := .ready, pending := none })] :: Lu), rfl, hle, ?_, _, rfl, .inl ⟨rfl, _, Lu, rfl, rfl, rfl, ⟨hrec.tmps, hrec.params, hrec.assign, hrec.body⟩, hJ⟩⟩
  exact (hw.put _).parts k1 k2 e
def jumpOf : Exit → Option Code
  | .ret => some .ret
  | .exit id => some (.exit id)
  | .goto t => some (.goto t)
  | _ => none
theorem te_leave {ex : Exit} {c : Code} {u : World} {R : SH} {S Lu L2 R1 R2 : SH} {tm : Array Value} {ps : Array Tmp} {assign body : Code} {J : Hp → SH → Prop} {Jx : Code → Hp → SH → Prop} (hc : jumpOf ex = some c) (hu : x.u = u) (hle : ρ0.le ρ) (hrec : Rec tm ps assign body r) (k1 : Take L2 S R1) (k2 : Take R1 Lu R2) (e : Ends R2 R) (hJ : Jx c ρ Lu) :
    TE x ex (RQ x.P u ρ0 R l (YP S (JH l (Rec tm ps assign body) J) (XH l (Rec tm ps assign body) Jx))) E ρ ([(l, .loop r)] :: L2) := fun a w ha hw => by
  subst hu
  have hl := hw.here (l, .loop r) (by simp)
  have key : ∀ c', c' = c → ∃ v w', (Instr.endRound l (some c')).run x.P w = .ok v w' ∧ ∃ b ρ' L', (Ending.returned v) = .returned (.bool b) ∧ ρ0.le ρ' ∧ Sat x.u ρ' (L' ++ R) w' ∧ YP S (JH l (Rec tm ps assign body) J) (XH l (Rec tm ps assign body) Jx) b ρ' L' := fun c' hc' => by
    subst hc'
    refine ⟨_, _, run_endRound (some c') hl, false, ρ, S ++ ([(l, .loop { r with state := .done, pending := some c' })] :: Lu), rfl, hle, ?_, _, rfl, .inr ⟨rfl, _, Lu, c', rfl, rfl, rfl, ⟨hrec.tmps, hrec.params, hrec.assign, hrec.body⟩, hJ⟩⟩
    exact (hw.put _).parts k1 k2 e
  cases ex <;> simp only [jumpOf, Option.some.injEq, reduceCtorEq] at hc <;> exact key _ hc

theorem tc_rangeFunc {fo : Operand} {ps : List Nat} {assign body : Code} {g : Nat} {fs cs : List Value} {α : Type} {enc : α → List Value} {S L0 R0 R : SH} {xs : List α} (hro : x.ro = none)
    (hf : ev E fo = some (.func (.func g) ⟨fs⟩ ⟨cs⟩)) [hF : Fun x.P g] (hI : Iter x.P g fs cs enc ρ0 S xs) (hle : ρ0.le ρ) (hps : ∀ y, (enc y).length = ps.length) (hpN : ps.all (fun p => Nat.blt p x.N) = true)
    (J : List α → Hp → SH → Prop) (Jx : Code → Hp → SH → Prop) (k1 : Take L S R0) (k2 : Take R0 L0 R) (h0 : J [] ρ L0)
    (hround : ∀ l tm r pre y ρ' Lu u R', (pre ++ [y]) <+: xs → ρ0.le ρ' → J pre ρ' Lu → r.state = .ready → Rec tm ⟨ps⟩ assign body r →
      TC ⟨some l, x.P, u, [], x.N⟩ assign (Exit.then (KB x.P l body (RQ x.P u ρ' R' l (YP S (JH l (Rec tm ⟨ps⟩ assign body) (J (pre ++ [y]))) (XH l (Rec tm ⟨ps⟩ assign body) Jx)))) QF)
        (envP ps (enc y) E) ρ' ([(l, .loop r)] :: (S ++ (Lu ++ R'))))
    (hdone : ∀ D0 ρ' Lu, ρ.le ρ' → J xs ρ' Lu → TE { x with D := [{ target := .collected D0, args := #[] }] ++ x.D } .normal Q E ρ' ([(D0, .deferred (some []))] :: (S ++ (Lu ++ R))))
    (hstop : ∀ D0 c ρ' Lu, ρ.le ρ' → Jx c ρ' Lu → TC { x with D := [{ target := .collected D0, args := #[] }] ++ x.D } c Q E ρ' ([(D0, .deferred (some []))] :: (S ++ (Lu ++ R)))) :
    TC x (.rangeFunc fo ⟨ps⟩ assign body) Q E ρ L := fun a w ha hw => by
  obtain ⟨ro, P, u, D, N⟩ := x
  simp only at hro; subst hro
  dsimp only at *
  refine wpIn_rangeFunc fun fn _ => ?_
  have hw0 : Sat u ρ (S ++ (L0 ++ R)) w := hw.perm (by
    refine k1.out.trans ?_
    simp only [List.flatten_append]
    exact List.Perm.append_left _ (by simpa using k2.out))
  have hw1 := hw0.new (.deferred (some []))
  generalize hr0 : ({ state := .ready, pending := none, fn, tmps := a.tmps, params := ⟨ps⟩, assign, body, defers := w.heap.size } : Loop) = r0
  have hw2 := hw1.new (.loop r0)
  have hsz : ({ w with heap := w.heap.push (.deferred (some [])) } : World).heap.size = w.heap.size + 1 := by simp
  rw [hsz] at hw2
  have hrec0 : Rec a.tmps ⟨ps⟩ assign body r0 := by subst hr0; exact ⟨rfl, rfl, rfl, rfl⟩
  have hst0 : r0.state = .ready ∧ r0.pending = none := by subst hr0; exact ⟨rfl, rfl⟩
  have henter := run_enterLoop_outer (P := P) (w := w) fn a.tmps ⟨ps⟩ assign body
  rw [hr0] at henter
  have hres : (resolve a.eval (rangeCall fo (w.heap.size + 1)) 0).run P ((w.alloc (.deferred (some []))).alloc (.loop r0)) =
      .ok { target := .fn (.func g) ⟨cs⟩, args := ⟨fs ++ [.func (.yield (w.heap.size + 1)) ⟨[]⟩ ⟨[]⟩]⟩ } ((w.alloc (.deferred (some []))).alloc (.loop r0)) := by
    simp only [resolve, ha.eval hf, Deferred.ofValue, Sem.run_pure]
    simp [Act.eval]
  refine ⟨w.heap.size + 1, _, _, _, _, g, ⟨fs ++ [.func (.yield (w.heap.size + 1)) ⟨[]⟩ ⟨[]⟩] ++ cs⟩, (w.alloc (.deferred (some []))).alloc (.loop r0), henter, hres, fun _ _ => trivial, ?_, fun h => by simp [Fw, Fence.wide] at h, ?_⟩
  · simp only [invoke]
    have := run_callFunc hF (⟨fs ++ [.func (.yield (w.heap.size + 1)) ⟨[]⟩ ⟨[]⟩]⟩ ++ ⟨cs⟩) ((w.alloc (.deferred (some []))).alloc (.loop r0))
    simpa using this
  generalize hl : w.heap.size + 1 = l at *
  generalize hD0 : w.heap.size = D0 at *
  have hy : ∀ pre y ρ' Lj, (pre ++ [y]) <+: xs → ρ0.le ρ' → JH l (Rec a.tmps ⟨ps⟩ assign body) (J pre) ρ' Lj → YSpec P l (enc y) ρ' (S ++ Lj) (YP S (JH l (Rec a.tmps ⟨ps⟩ assign body) (J (pre ++ [y]))) (XH l (Rec a.tmps ⟨ps⟩ assign body) Jx)) := by
    intro pre y ρ' Lj hpre hle' hJ
    obtain ⟨r, Lu, rfl, hrs, hrp, hrr, hJu⟩ := hJ
    intro u' R' w' hw'
    have hlr := hw'.here (l, .loop r) (by simp)
    have hargs : (⟨enc y⟩ : Array Value).size = r.params.size := by rw [hrr.params]; simpa using hps y
    refine ⟨_, _, _, _, run_yield hlr hargs, ?_⟩
    have hround' := hround l a.tmps r pre y ρ' Lu u' R' hpre hle' hJu hrs hrr
    have hsat : Sat u' ρ' ([(l, .loop r)] :: (S ++ (Lu ++ R'))) w' := hw'.perm (by simp)
    have hok : Ok [] N (envP ps (enc y) E) { tmps := (r.params.zip ⟨enc y⟩).foldl (fun tmps (t, a) => tmps.setIfInBounds t a) r.tmps, defers := [] } := by
      have h1 : Ok [] N E { tmps := a.tmps, defers := [] } := ⟨rfl, ha.size, ha.get⟩
      have := Ok.putP ps (enc y) E a.tmps hpN h1
      rw [hrr.params, hrr.tmps]
      have e : ((⟨ps⟩ : Array Nat).zip ⟨enc y⟩) = ⟨ps.zip (enc y)⟩ := by simp
      rw [e]
      simpa using this
    have hwp := hround' _ w' hok hsat
    rw [hrr.assign, hrr.body]
    refine roundIn_of_wpIn (F := Fw none) (n := 0) trivial ?_
    exact hwp
  have hspec := hI l (fun pre => JH l (Rec a.tmps ⟨ps⟩ assign body) (J pre)) (XH l (Rec a.tmps ⟨ps⟩ assign body) Jx) hy ρ ([(l, .loop r0)] :: L0) hle ⟨r0, L0, rfl, hst0.1, hst0.2, hrec0, h0⟩
  have hcall := hspec u ([(D0, .deferred (some []))] :: R) ((w.alloc (.deferred (some []))).alloc (.loop r0)) (hw2.perm (by
    simp only [List.flatten_cons, List.flatten_append, List.append_assoc, List.cons_append, List.singleton_append, List.nil_append]
    refine List.Perm.trans (l₂ := S.flatten ++ ((l, .loop r0) :: (D0, .deferred (some [])) :: (L0.flatten ++ R.flatten))) ?_ ?_
    · refine List.Perm.trans ?_ List.perm_middle.symm
      refine List.Perm.cons _ ?_
      exact List.perm_middle.symm
    · refine List.Perm.append_left _ (List.Perm.cons _ ?_)
      exact List.perm_middle.symm))
  refine calls_ro (CallsIn.mono hcall ?_)
  rintro e w3 ⟨v, ρ', L', rfl, hle', hsat, Lj', rfl, hor⟩
  have perm4 : ∀ (c : List (Nat × Obj)) (Lu : SH), (S ++ (c :: Lu) ++ ([(D0, .deferred (some []))] :: R)).flatten.Perm (c :: ([(D0, .deferred (some []))] :: (S ++ (Lu ++ R)))).flatten := fun c Lu => by
    simp only [List.flatten_cons, List.flatten_append, List.append_assoc, List.cons_append, List.singleton_append, List.nil_append]
    refine List.Perm.trans ?_ (List.Perm.append_left c (List.perm_middle (l₁ := S.flatten ++ Lu.flatten) (a := (D0, .deferred (some []))) (l₂ := R.flatten) |>.trans (by simp)))
    rw [← List.append_assoc, ← List.append_assoc c]
    refine List.Perm.trans (List.Perm.append_right _ List.perm_append_comm) ?_
    simp only [List.append_assoc]
    exact List.Perm.refl _
  rcases hor with ⟨r, Lu, rfl, hrs, hrp, hrr, hJu⟩ | ⟨r, Lu, c, rfl, hrs, hrp, hrr, hJu⟩
  · have hs1 := hsat.perm (perm4 [(l, .loop r)] Lu)
    have hlr := hs1.here (l, .loop r) (by simp)
    refine ⟨r.pending, _, run_endLoop hlr (by rw [hrs]; simp), ?_⟩
    rw [hrp]
    have hs2 := (hs1.put (.loop { r with state := .exhausted, pending := none })).sub (L' := [(D0, .deferred (some []))] :: (S ++ (Lu ++ R))) (by simp)
    exact hdone D0 ρ' Lu hle' hJu _ _ ⟨by simp [ha.defers], ha.size, ha.get⟩ hs2
  · have hs1 := hsat.perm (perm4 [(l, .loop r)] Lu)
    have hlr := hs1.here (l, .loop r) (by simp)
    refine ⟨r.pending, _, run_endLoop hlr (by rw [hrs]; simp), ?_⟩
    rw [hrp]
    have hs2 := (hs1.put (.loop { r with state := .exhausted, pending := some c })).sub (L' := [(D0, .deferred (some []))] :: (S ++ (Lu ++ R))) (by simp)
    exact hstop D0 c ρ' Lu hle' hJu _ _ ⟨by simp [ha.defers], ha.size, ha.get⟩ hs2

/-- a round's end; what is not named is let go -/
theorem te_round_e {Y : Type} {S : Y → LS} {I : Y → Prop} {μ : Y → Nat} {y : Y} {Lm G R : SH} (y' : Y) (hL : (S y').L = Lm ++ R) (hI : I y') (hE : EnvLe (S y').E E) (hρ : (S y').ρ = ρ) (k : Take L Lm G) (e : Ends G R) (hμ : μ y' < μ y) :
    TE x .normal (Exit.then (KR x S I μ y) Q) E ρ L := fun a w ha hw => ⟨y', ⟨ha.le hE, by rw [hρ, hL]; exact hw.ends k e, hI⟩, hμ⟩
theorem tc_loop_e {Y : Type} {c : Code} {Lm G R : SH} (S : Y → LS) (I : Y → Prop) (μ : Y → Nat) (y0 : Y) (hL : (S y0).L = Lm ++ R) (h0 : I y0)
    (hE : EnvLe (S y0).E E) (hρ : (S y0).ρ = ρ) (k : Take L Lm G) (e : Ends G R)
    (round : ∀ y, I y → TC x c (Exit.then (KR x S I μ y) Q) (S y).E (S y).ρ (S y).L) :
    TC x (.loop c) Q E ρ L := fun a w ha hw =>
  tc_loop (E := (S y0).E) (ρ := (S y0).ρ) (L := (S y0).L) S I μ y0 h0 (EnvLe.refl _) rfl (List.Perm.refl _) round a w (ha.le hE) (by rw [hρ, hL]; exact hw.ends k e)
theorem te_cut_e {Y : Type} {S : Y → LS} {I : Y → Prop} {Lm G R : SH} (y' : Y) (hL : (S y').L = Lm ++ R) (hI : I y') (hE : EnvLe (S y').E E) (hρ : (S y').ρ = ρ) (k : Take L Lm G) (e : Ends G R) :
    TE x .normal (Exit.then (fun a w => ∃ y', Ok x.D x.N (S y').E a ∧ Sat x.u (S y').ρ (S y').L w ∧ I y') Q) E ρ L :=
  fun a w ha hw => ⟨y', ha.le hE, by rw [hρ, hL]; exact hw.ends k e, hI⟩

/-- the end of a function that has ranged over a function -/
theorem te_end_d {e : Exit} {fn : Func} {u : World} {ρ0 : Hp} {R : SH} {Post : Value → Hp → SH → Prop} {L' G : SH} {v : Value} {D0 : Nat} {f : Obj → SH} (he : isEnd e = true) (hD : x.D = [{ target := .collected D0, args := #[] }]) (hu : x.u = u) (kU : Upd D0 L (.deferred (some [])) f)
    (hr : ∀ a w, Ok x.D x.N E a → Sat x.u ρ (f (.deferred none)) w → (results fn a.tmps).run x.P w = .ok v w)
    (hle : ρ0.le ρ) (k : Take (f (.deferred none)) L' G) (en : Ends G R) (hp : Post v ρ L') : TE x e (bodyPostM (Fw none) 0 x.P fn (RK u ρ0 R Post)) E ρ L := fun a w ha hw => by
  subst hu
  have hd := ha.defers
  rw [hD] at hd
  obtain ⟨hw', hb⟩ := hw.upd kU (.deferred none)
  have h := hr a _ ha hw'
  have hrun := run_takeDeferred (P := x.P) hb
  have key : LeavesInM (Fw none) 0 x.P fn a.tmps (RK x.u ρ0 R Post) a.defers .returning w := by
    rw [hd]
    refine ⟨by simp, .inl ⟨D0, _, rfl, hrun, ?_⟩⟩
    exact ⟨v, h, v, ρ, L', rfl, hle, hw'.ends k en, hp⟩
  cases e <;> simp only [isEnd, Bool.false_eq_true] at he <;> exact key
end
end Go.Proofs.E

namespace Go.Proofs.E
open Go
set_option linter.unusedVariables false
set_option linter.unusedSimpArgs false

/-! ## stores into rows that are written out -/
class SetL (l : List Value) (off : Nat) (v : Value) (l' : outParam (List Value)) : Prop where
  out : off < l.length ∧ stc l off [v] = l'
instance SetL.zero {a v : Value} {r : List Value} : SetL (a :: r) 0 v (v :: r) := ⟨by simp, by simp [stc]⟩
instance SetL.succ {a v : Value} {r r' : List Value} {n : Nat} [h : SetL r n v r'] : SetL (a :: r) (n + 1) v (a :: r') := ⟨by
  have := h.out.1; simp; omega, by
  have := h.out.2
  simp only [stc, List.length_singleton, List.take_succ_cons, List.drop_succ_cons, List.cons_append] at this ⊢
  rw [← this]⟩
section
variable {x : Cx} {Q : Exit → Act → World → Prop} {E : Env} {ρ : Hp} {L : SH} {ops : Array Oper} {rest : List Oper} {ty : TypeId} {pos : String} {af : Array Edge}
theorem tl_store_set {t b off : Nat} {o p : Operand} {l l' : List Value} {T : TypeId} {v : Value} {f : Obj → SH} (ho : ev E o = some (.pointer (some ⟨b, off, none⟩))) (hp : ev E p = some v) (h1 : v.oneCell' = true) [hZ : TySz x.P t 1] [hU : Upd b L (.cells ⟨l⟩ T (0, 0)) f]
    [hS : SetL l off v l'] (k : TL x ops rest Q E ρ (f (.cells ⟨l'⟩ T (0, 0)))) :
    TL x ops (⟨none, .store t o p, ty, pos, af, none⟩ :: rest) Q E ρ L :=
  tl_store_s ho hp h1 (ble_le (by have := hS.out.1; omega)) (by rw [hS.out.2]; exact k)
theorem tl_store_all {t b n : Nat} {o p : Operand} {l vs : List Value} {T : TypeId} {f : Obj → SH} (ho : ev E o = some (.pointer (some ⟨b, 0, none⟩))) (hp : ev E p = some (.agg ⟨vs⟩)) [hZ : TySz x.P t n] [hU : Upd b L (.cells ⟨l⟩ T (0, 0)) f] (hn : vs.length = n) (hl : l.length = n) (h1 : vs.all (·.oneCell') = true)
    (k : TL x ops rest Q E ρ (f (.cells ⟨vs⟩ T (0, 0)))) :
    TL x ops (⟨none, .store t o p, ty, pos, af, none⟩ :: rest) Q E ρ L :=
  tl_store_a ho hp hn h1 (ble_le (by omega)) (by
    have : stc l 0 vs = vs := by simp [stc, hn, ← hl]
    rw [this]; exact k)
theorem y_fieldAddr0 {o : Operand} {s f b d ft : Nat} (h : ev E o = some (.pointer (some ⟨b, 0, none⟩))) [hF : Fld x.P s f d ft] : Yl x (.fieldAddr s o f) ty E ρ L (.pointer (some ⟨b, d, none⟩)) := by
  have := y_fieldAddr (x := x) (E := E) (ρ := ρ) (L := L) (ty := ty) h (hF := hF)
  simpa using this
theorem y_indexAddr_nat {o i : Operand} {t e sz b off len cap : Nat} {k : IntKind} {n : Nat} (h : ev E o = some (.slice (some ⟨b, off, none⟩) len cap)) (hi : ev E i = some (.int k (n : Int))) [hS : TySlice x.P t e] [hZ : TySz x.P e sz] (h1 : n < len) :
    Yl x (.indexAddr t o i) ty E ρ L (.pointer (some ⟨b, off + n * sz, none⟩)) := by
  have := y_indexAddr (x := x) (E := E) (ρ := ρ) (L := L) (ty := ty) h hi (hS := hS) (hZ := hZ) (by omega) (by omega)
  simpa using this
theorem tl_buildSlice0 {d t e sz : Nat} [hS : TySlice x.P t e] [hZ : TySz x.P e sz] (hd : Nat.blt d x.N = true)
    (k : ∀ b, TL x ops rest Q ((d, .slice (some ⟨b, 0, none⟩) 0 0) :: E) ρ ([(b, .cells ⟨[]⟩ e (0, 0))] :: L)) :
    TL x ops (⟨some d, .buildSlice t 0 ⟨[]⟩, ty, pos, af, none⟩ :: rest) Q E ρ L :=
  tl_new (g := fun b => .slice (some ⟨b, 0, none⟩) 0 0) (fun a w ha hw => by
    obtain ⟨i, g1, g2⟩ := hZ.out
    have e0 : (Array.map (fun x : Nat => (default : Value)) (Array.range 0)) = ⟨[]⟩ := by simp [Array.range]
    simp [execOp, Instr.buildSlice, underlying, hS.out, sizeOf, typeInfo, g1, newRow, Instr.fill, e0]) hd rfl k
/-- a loop's or branch's environment may be cut down -/
theorem TL.cast {l} {E' : Env} (h : TL x ops l Q E' ρ L) (he : EnvLe E' E) : TL x ops l Q E ρ L := fun a w ha hw => h a w (ha.le he) hw
theorem TE.cast {e : Exit} {E' : Env} (h : TE x e Q E' ρ L) (he : EnvLe E' E) : TE x e Q E ρ L := fun a w ha hw => h a w (ha.le he) hw
theorem TC.cast {c : Code} {E' : Env} (h : TC x c Q E' ρ L) (he : EnvLe E' E) : TC x c Q E ρ L := fun a w ha hw => h a w (ha.le he) hw
theorem ys_of' {S : World → Prop} {op ty v} {Ls : SH} (hS : ∀ w, S w → Stays x ρ Ls w) (h : ∀ ρ', ρ.le ρ' → Yl x op ty E ρ' Ls v) : YS x S op ty E v := fun a w dst pos after guard ha hs => by
  obtain ⟨ρ', hle, hw⟩ := hS w hs
  exact h ρ' hle a w dst pos after guard ha hw
theorem run_loadAt_c {w : World} {P : Program} {a : Addr} {t : TypeId} {v : Value} (hA : TyS P t) (hc : w.cell? a = some v) : (Instr.loadAt t (.pointer (some a))).run P w = .ok v w := by
  obtain ⟨d, i, h1, h2, h3, h4⟩ := hA.out
  have ha : (isAgg t).run P w = .ok false w := by
    simp only [isAgg, underlying, Sem.run_bind, run_program, Result.andThen_ok, h1, Sem.run_pure]
    cases d <;> simp_all
  simp [Instr.loadAt, Instr.sureAddr, loadVar, ha, hc]
theorem ys_load_cell {S : World → Prop} {o : Operand} {t b off : Nat} {v : Value} (h : ev E o = some (.pointer (some ⟨b, off, none⟩))) [hA : TyS x.P t] (hS : ∀ w, S w → w.cell? ⟨b, off, none⟩ = some v) : YS x S (.load t o) ty E v := fun a w _ _ _ _ ha hs => by
  simp [execOp, ha.eval h, run_loadAt_c hA (hS w hs)]
theorem Sat.cell {u : World} {w : World} {b off : Nat} {l : List Value} {T : TypeId} {fr : Nat × Nat} {v : Value} (hw : Sat u ρ L w) [hF : Find b L (.cells ⟨l⟩ T fr)] (h : l[off]? = some v) : w.cell? ⟨b, off, none⟩ = some v := by
  simp [World.cell?, hw.find hF, h]
end

/-! ## bytes -/
def u8c (b : UInt8) : Value := .int .u8 b.toNat
theorem u8c_one (l : List UInt8) : (l.map u8c).all (·.oneCell') = true := by
  rw [List.all_eq_true]; intro v hv; obtain ⟨b, _, rfl⟩ := List.mem_map.1 hv; rfl
section
variable {x : Cx} {Q : Exit → Act → World → Prop} {E : Env} {ρ : Hp} {L : SH} {ops : Array Oper} {rest : List Oper} {ty : TypeId} {pos : String} {af : Array Edge}
class NoGuard (P : Program) (t : TypeId) : Prop where
  out : P.eqGuardType P.depth t = false
theorem y_eq_bytes {o : BinOp} {p q : Operand} {t t' n e : Nat} {l m : List UInt8} {b : Bool} [hA : TyArr x.P t n e] [hE : TyInt x.P e .u8] [hz : TySz x.P e 1] [hG : NoGuard x.P t] (h1 : ev E p = some (.agg ⟨l.map u8c⟩)) (h2 : ev E q = some (.agg ⟨m.map u8c⟩))
    (hl : l.length = n) (hm : m.length = n) (hb : eqB o (l == m) = some b) : Yl x (.binOp o t p q t') ty E ρ L (.bool b) := fun a w _ _ _ _ ha _ => by
  obtain ⟨i, g1, g2⟩ := hz.out
  have hsz : ∀ w, (sizeOf e).run x.P w = .ok 1 w := fun w => by simp [sizeOf, typeInfo, g1, g2]
  have hr := run_equalIn_bytes (P := x.P) w 9998 t e n hA.out hE.out hsz l m hl hm
  have e1 : ∀ l : List UInt8, (l.map Extern.Stop.cell).toArray = ⟨l.map u8c⟩ := fun l => rfl
  rw [e1, e1] at hr
  have hg := run_eqGuard_agg (P := x.P) (w := w) o t p q ⟨l.map u8c⟩ ⟨m.map u8c⟩ hG.out
  cases o <;> simp only [eqB, Option.some.injEq, reduceCtorEq] at hb <;> subst hb
  · have hb := run_eql_struct (P := x.P) (w := w) t ⟨l.map u8c⟩ ⟨m.map u8c⟩
    rw [hr] at hb
    simp only [execOp, ha.eval h1, ha.eval h2, Sem.run_bind, hg, Result.andThen_ok, hb, Sem.run_pure]
  · have hb := run_neq_struct (P := x.P) (w := w) t ⟨l.map u8c⟩ ⟨m.map u8c⟩
    rw [hr] at hb
    simp only [execOp, ha.eval h1, ha.eval h2, Sem.run_bind, hg, Result.andThen_ok, hb, Sem.run_pure]
end
end Go.Proofs.E

namespace Go.Proofs.E
open Go
set_option linter.unusedVariables false
set_option linter.unusedSimpArgs false
instance (priority := 800) Find.app {b : Nat} {X L : SH} {o : Obj} [h : Find b L o] : Find b (X ++ L) o := ⟨by
  simp only [List.flatten_append, List.mem_append]; exact .inr h.out⟩
instance (priority := 800) Upd.app {b : Nat} {X L : SH} {o : Obj} {f : Obj → SH} [h : Upd b L o f] : Upd b (X ++ L) o (fun o' => X ++ f o') := by
  obtain ⟨pre, post, h1, h2⟩ := h.out
  exact ⟨X ++ pre, post, by simp [h1], fun o' => by simp [h2]⟩
instance (priority := 800) Rem.app {c : List (Nat × Obj)} {X L L' : SH} [h : Rem c L L'] : Rem c (X ++ L) (X ++ L') := rem_app' h
instance (priority := 800) Ends.app {G R X : SH} [h : Ends G R] : Ends (X ++ G) R := ⟨by
  simp only [List.flatten_append]; exact h.out.trans (List.sublist_append_right _ _)⟩

theorem fill_scalars : ∀ (vs : List Value) (k : Nat) (done rest : List Value), done.length = k → rest.length = vs.length → vs.all (·.oneCell') = true →
    Instr.fill (fun i => some (i * 1, 1)) ⟨done ++ rest⟩ ((List.range' k vs.length).zip vs) = some ⟨done ++ vs⟩
  | [], k, done, rest, h1, h2, h3 => by
    have : rest = [] := by simpa using h2
    simp [Instr.fill, this]
  | v :: vs, k, done, rest, h1, h2, h3 => by
    obtain ⟨r, rest', rfl⟩ : ∃ r rest', rest = r :: rest' := by
      cases rest with
      | nil => simp at h2
      | cons r t => exact ⟨r, t, rfl⟩
    simp only [List.all_cons, Bool.and_eq_true] at h3
    have hc := cells_one h3.1
    have hset : (⟨done ++ r :: rest'⟩ : Array Value).setIfInBounds (k * 1 + 0) v = ⟨(done ++ [v]) ++ rest'⟩ := by
      simp [List.set_append, h1]
    have ih := fill_scalars vs (k + 1) (done ++ [v]) rest' (by simp [h1]) (by simpa using h2) h3.2
    simp only [List.length_cons, List.range'_succ, List.zip_cons_cons, Instr.fill, hc]
    have hz : (⟨[v]⟩ : Array Value).zipIdx = #[(v, 0)] := by simp [Array.zipIdx]
    have hsz : ¬ ((⟨[v]⟩ : Array Value).size ≠ 1 ∨ k * 1 + (⟨[v]⟩ : Array Value).size > (⟨done ++ r :: rest'⟩ : Array Value).size) := by simp [h1]
    simp only [hz]
    have hif : (decide ((⟨[v]⟩ : Array Value).size ≠ 1) || decide (k * 1 + (⟨[v]⟩ : Array Value).size > (⟨done ++ r :: rest'⟩ : Array Value).size)) = false := by
      simp [h1]
    simp only [hif, Bool.false_eq_true, if_false]
    rw [show Array.foldl (fun cs (x : Value × Nat) => cs.setIfInBounds (k * 1 + x.2) x.1) (⟨done ++ r :: rest'⟩ : Array Value) #[(v, 0)] = (⟨done ++ r :: rest'⟩ : Array Value).setIfInBounds (k * 1 + 0) v from by simp]
    rw [hset, ih]
    simp
theorem take_append' {L S R1 Lf R : SH} (h : Take L S R1) (k : Take R1 Lf R) : Take L (S ++ Lf) R := ⟨by
  refine h.out.trans ?_
  simp only [List.flatten_append, List.append_assoc]
  exact List.Perm.append_left _ (by simpa using k.out)⟩
theorem te_front {x : Cx} {e : Exit} {Q : Exit → Act → World → Prop} {E : Env} {ρ : Hp} {L L' : SH} (c : List (Nat × Obj)) [h : Rem c L L'] (k : TE x e Q E ρ (c :: L')) : TE x e Q E ρ L := fun a w ha hw =>
  k a w ha (hw.perm (by simpa using h.out))
theorem tl_front {x : Cx} {ops : Array Oper} {l : List Oper} {Q : Exit → Act → World → Prop} {E : Env} {ρ : Hp} {L L' : SH} (c : List (Nat × Obj)) [h : Rem c L L'] (k : TL x ops l Q E ρ (c :: L')) : TL x ops l Q E ρ L := fun a w ha hw =>
  k a w ha (hw.perm (by simpa using h.out))
theorem tc_front {x : Cx} {y : Code} {Q : Exit → Act → World → Prop} {E : Env} {ρ : Hp} {L L' : SH} (c : List (Nat × Obj)) [h : Rem c L L'] (k : TC x y Q E ρ (c :: L')) : TC x y Q E ρ L := fun a w ha hw =>
  k a w ha (hw.perm (by simpa using h.out))
section
variable {x : Cx} {Q : Exit → Act → World → Prop} {E : Env} {ρ : Hp} {L : SH} {ops : Array Oper} {rest : List Oper} {ty : TypeId} {pos : String} {af : Array Edge}
/-- a list that is written out, of plain values -/
theorem tl_buildSlice_s {d t e len : Nat} {z : Value} {ps : List (Nat × Operand)} {vs : List Value} [hS : TySlice x.P t e] [hZ : TySz x.P e 1] [hz : TyZero x.P e z] (hv : evs E (ps.map (·.2)) = some vs) (hz1 : z.oneCell' = true)
    (hix : ps.map (·.1) = List.range' 0 vs.length) (hlen : vs.length = len) (h0 : (0 < len ∧ len ≤ 16777216) = True) (h1 : vs.all (·.oneCell') = true) (hd : Nat.blt d x.N = true)
    (k : ∀ b, TL x ops rest Q ((d, .slice (some ⟨b, 0, none⟩) len len) :: E) ρ ([(b, .cells ⟨vs⟩ e (0, 0))] :: L)) :
    TL x ops (⟨some d, .buildSlice t len ⟨ps⟩, ty, pos, af, none⟩ :: rest) Q E ρ L := by
  refine tl_buildSlice (sz := 1) hv (by simpa using h0) ?_ hd k
  rw [hix]
  have := fill_scalars vs 0 [] (List.replicate len z) rfl (by simp [hlen]) h1
  simp only [List.nil_append] at this
  have hcell : Array.map (fun i : Nat => z.cells[i % z.cells.size]!) (Array.range (len * 1)) = ⟨List.replicate len z⟩ := by
    rw [cells_one hz1]
    apply Array.ext'
    apply List.ext_getElem
    · simp
    · intro i h1 h2
      simp [Nat.mod_one]
  rw [hcell]; exact this
end
end Go.Proofs.E

namespace Go.Proofs.E
open Go
set_option linter.unusedVariables false
set_option linter.unusedSimpArgs false
section
variable {x : Cx} {Q : Exit → Act → World → Prop} {E : Env} {ρ : Hp} {L L1 : SH} {ops : Array Oper} {rest tail : List Oper} {ty : TypeId} {pos : String} {af : Array Edge}
theorem y_slice_h {o h : Operand} {t e sz len cap : Nat} {a : Option Addr} {k : IntKind} {n : Int} (ho : ev E o = some (.slice a len cap)) (hh : ev E h = some (.int k n)) [hS : TySlice x.P t e] [hZ : TySz x.P e sz] (h0 : 0 ≤ n) (h1 : n ≤ cap) :
    Yl x (.slice t o none (some h) none) ty E ρ L (.slice a n.toNat cap) := fun a' w _ _ _ _ ha hw => by
  obtain ⟨inf, g1, g2⟩ := hZ.out
  have hel : x.P.elem t = e := by simp [Program.elem, hS.out]
  have ht : x.P.underlying t = some (.slice (x.P.elem t)) := by rw [hel]; exact hS.out
  have ea : (if cap = 0 then a else a.map (·.add (0 * sz))) = a := by
    split
    · rfl
    · cases a with
      | none => rfl
      | some a => simp [Addr.add]
  have := run_slice_h (P := x.P) (w := w) t a len cap ht k n h0 h1
  simp only [execOp, ha.eval ho, ha.eval hh, Option.map_some, Option.map_none, Sem.run_bind, run_sliceAt_slice _ _ _ _ _ _ ht, this, sizeOf, typeInfo, hel]
  simp only [run_program, g1, Sem.run_pure, Result.andThen_ok, sliced, g2, Nat.sub_zero, ea]
theorem y_append0 {s y : Operand} {t e sz n cap cy : Nat} {a ay : Option Addr} [hS : TySlice x.P t e] [hZ : TySz x.P e sz] (hs : ev E s = some (.slice a n cap)) (hy : ev E y = some (.slice ay 0 cy)) (hn : n ≤ cap) :
    Yl x (.call { callee := .builtin .append, args := #[s, y], argTypes := #[t, t] }) ty E ρ L (.slice a n cap) := fun a' w _ _ _ _ ha hw => by
  obtain ⟨inf, g1, g2⟩ := hZ.out
  have hsrc : Go.Src x.P inf.size t (.slice ay 0 cy) 0 [] w := by
    cases ay with
    | none => exact Go.Src.ofNil w hS.out cy
    | some ad => exact Go.Src.ofSlice w hS.out ad 0 cy [] (by simp) (by simp) (by simp)
  have hr := run_append_nothing (P := x.P) w t t ty e inf hS.out g1 a n cap hn (.slice ay 0 cy) hsrc
  simp only [execOp, resolve, Sem.run_bind, Sem.run_pure, Result.andThen_ok, invoke, builtin]
  have hargs : Array.map a'.eval #[s, y] = #[.slice a n cap, .slice ay 0 cy] := by simp [ha.eval hs, ha.eval hy]
  rw [hargs, hr]
  rfl
theorem y_indexAddr_arrN {o i : Operand} {t len e sz b off n : Nat} {k : IntKind} (h : ev E o = some (.pointer (some ⟨b, off, none⟩))) (hi : ev E i = some (.int k (n : Int))) [hS : TyArr x.P t len e] [hZ : TySz x.P e sz] (h1 : n < len) :
    Yl x (.indexAddr t o i) ty E ρ L (.pointer (some ⟨b, off + n * sz, none⟩)) := by
  have := y_indexAddr_arr (x := x) (E := E) (ρ := ρ) (L := L) (ty := ty) h hi (hS := hS) (hZ := hZ) (by omega) (by omega)
  simpa using this
end
instance Ends.napp {L R : SH} [h : Ends L R] : Ends (List.append [] L) R := h
instance (priority := 700) Ends.lapp {X L R : SH} [h : Ends L R] : Ends (List.append X L) R := Ends.app (X := X)
end Go.Proofs.E

namespace Go.Proofs.E
open Go
set_option linter.unusedVariables false
set_option linter.unusedSimpArgs false
/-! ## a struct that is built of plain values -/
theorem fill_cons {pl : Nat → Option (Nat × Nat)} {i off size : Nat} {v : Value} {cells cs : List Value} {rest : List (Nat × Value)} (hp : pl i = some (off, size)) (hv : v.cells = ⟨cs⟩) (hs : cs.length = size) (hf : off + size ≤ cells.length) :
    Instr.fill pl ⟨cells⟩ ((i, v) :: rest) = Instr.fill pl ⟨stc cells off cs⟩ rest := by
  have key : ∀ (cs : List Value) (k : Nat) (l : List Value), off + k + cs.length ≤ l.length → List.foldl (fun (acc : Array Value) (x : Value × Nat) => acc.setIfInBounds (off + x.2) x.1) ⟨l⟩ (cs.zipIdx k) = ⟨stc l (off + k) cs⟩ := by
    intro cs
    induction cs with
    | nil => intro k l h; simp [stc]
    | cons c r ih =>
      intro k l h
      simp only [List.zipIdx_cons, List.foldl_cons]
      have e : (⟨l⟩ : Array Value).setIfInBounds (off + k) c = ⟨l.set (off + k) c⟩ := by simp
      rw [e, ih (k + 1) (l.set (off + k) c) (by simp at h ⊢; omega)]
      congr 1
      simp only [stc, List.length_cons] at h ⊢
      have h1 : (l.set (off + k) c).take (off + (k + 1)) = l.take (off + k) ++ [c] := by
        rw [show off + (k + 1) = (off + k) + 1 by omega, List.take_succ_eq_append_getElem (by simp; omega)]
        simp [List.take_set_of_le]
      have h2 : (l.set (off + k) c).drop (off + (k + 1) + r.length) = l.drop (off + k + (r.length + 1)) := by
        rw [List.drop_set_of_lt (by omega)]
        congr 1; omega
      rw [h1, h2]; simp
  simp only [Instr.fill, hp, hv]
  have hc : (decide ((⟨cs⟩ : Array Value).size ≠ size) || decide (off + (⟨cs⟩ : Array Value).size > (⟨cells⟩ : Array Value).size)) = false := by
    simp [hs]; omega
  rw [if_neg (by simp [hs]; omega)]
  congr 1
  have := key cs 0 cells (by omega)
  simp only [Nat.add_zero] at this
  rw [← this]
  simp [Array.zipIdx, List.mapIdx_eq_zipIdx_map]
class GetP (pl : List (Nat × Nat)) (i : Nat) (off : outParam Nat) : Prop where
  out : pl[i]? = some (off, 1)
instance GetP.zero {off : Nat} {r : List (Nat × Nat)} : GetP ((off, 1) :: r) 0 off := ⟨rfl⟩
instance GetP.succ {p : Nat × Nat} {r : List (Nat × Nat)} {i off : Nat} [h : GetP r i off] : GetP (p :: r) (i + 1) off := ⟨by simpa using h.out⟩
class BuildL (pl : List (Nat × Nat)) (cells : List Value) (ps : List (Nat × Operand)) (vs : List Value) (out : outParam (List Value)) : Prop where
  out : vs.all (·.oneCell') = true → Instr.fill (pl[·]?) ⟨cells⟩ ((ps.map (·.1)).zip vs) = some ⟨out⟩
instance BuildL.nil {pl : List (Nat × Nat)} {cells : List Value} : BuildL pl cells [] [] cells := ⟨fun _ => rfl⟩
instance BuildL.cons {pl : List (Nat × Nat)} {cells cells' out : List Value} {i off : Nat} {o : Operand} {ps : List (Nat × Operand)} {v : Value} {vs : List Value} [h1 : GetP pl i off] [h2 : SetL cells off v cells'] [h3 : BuildL pl cells' ps vs out] : BuildL pl cells ((i, o) :: ps) (v :: vs) out := ⟨fun hone => by
  simp only [List.all_cons, Bool.and_eq_true] at hone
  simp only [List.map_cons, List.zip_cons_cons]
  have hlt := h2.out.1
  rw [fill_cons (pl := (pl[·]?)) h1.out (cells_one hone.1) rfl (by omega), h2.out.2]
  exact h3.out hone.2⟩
theorem hp_get {ρ ρ' : Hp} {b : Nat} {o : Obj} (h : ρ.le ρ') (hb : ρ b = some o) : ρ' b = some o := h _ _ hb
class TyIface (P : Program) (t : TypeId) (b : outParam Bool) : Prop where
  out : ∃ d, P.underlying t = some d ∧ (match d with | .interface _ => true | _ => false) = b
def isIfaceD : TypeDesc → Bool
  | .interface _ => true
  | _ => false
theorem mkTyIface {P : Program} {t : TypeId} {b : Bool} (h : (P.underlying t).map isIfaceD = some b) : TyIface P t b := by
  obtain ⟨d, hd, he⟩ := Option.map_eq_some_iff.1 h
  exact ⟨d, hd, by cases d <;> simp_all [isIfaceD]⟩
section
variable {x : Cx} {Q : Exit → Act → World → Prop} {E : Env} {ρ : Hp} {L : SH} {ops : Array Oper} {rest : List Oper} {ty : TypeId} {pos : String} {af : Array Edge}

theorem run_equal_slice_nil {P : Program} {t e : TypeId} (hP : TySlice P t e) (s : Option Addr) (n c : Nat) (w : World) : (Op.equal t (.slice s n c) (.slice none 0 0)).run P w = .ok s.isNone w := by
  have hd : Op.maxDepth = 9999 + 1 := rfl
  rw [Op.equal, hd, Op.equalIn]
  simp only [Sem.run_bind, underlying, run_program, Result.andThen_ok, hP.out, Sem.run_pure]
  cases s <;> rfl
theorem run_equal_map_nil {P : Program} {t k e : TypeId} (hP : TyMap P t k e) (s : Option Nat) (w : World) : (Op.equal t (.map s) (.map none)).run P w = .ok s.isNone w := by
  have hd : Op.maxDepth = 9999 + 1 := rfl
  rw [Op.equal, hd, Op.equalIn]
  simp only [Sem.run_bind, underlying, run_program, Result.andThen_ok, hP.out, Sem.run_pure]
  cases s <;> rfl
theorem y_slice_nil {o : BinOp} {p q : Operand} {t t' e : TypeId} {s : Option Addr} {n c : Nat} {b : Bool} [hP : TySlice x.P t e] (h1 : ev E p = some (.slice s n c)) (h2 : ev E q = some (.slice none 0 0))
    (hb : eqB o s.isNone = some b) : Yl x (.binOp o t p q t') ty E ρ L (.bool b) :=
  y_eq h1 h2 rfl (fun w => run_equal_slice_nil hP s n c w) hb
theorem y_map_nil {o : BinOp} {p q : Operand} {t t' k e : TypeId} {s : Option Nat} {b : Bool} [hP : TyMap x.P t k e] (h1 : ev E p = some (.map s)) (h2 : ev E q = some (.map none))
    (hb : eqB o s.isNone = some b) : Yl x (.binOp o t p q t') ty E ρ L (.bool b) :=
  y_eq h1 h2 rfl (fun w => run_equal_map_nil hP s w) hb
theorem y_makeInterface {p : Operand} {t : TypeId} {v : Value} [hI : TyIface x.P t false] (h : ev E p = some v) : Yl x (.makeInterface t p) ty E ρ L (.iface t v) := fun a w _ _ _ _ ha _ => by
  obtain ⟨d, h1, h2⟩ := hI.out
  cases d <;> simp at h2 <;> simp [execOp, ha.eval h, Instr.makeInterface, underlying, h1]
theorem y_typeAssert {p : Operand} {xt t : TypeId} {v : Value} [hI : TyIface x.P t false] (h : ev E p = some (.iface t v)) : Yl x (.typeAssert p xt t false) ty E ρ L v := fun a w _ _ _ _ ha _ => by
  obtain ⟨d, h1, h2⟩ := hI.out
  cases d <;> simp at h2 <;> simp [execOp, ha.eval h, Instr.typeAssert, underlying, h1]
theorem y_buildS {t : Nat} {pl : List (Nat × Nat)} {z out : List Value} {ps : List (Nat × Operand)} {vs : List Value} [hP : TyPlaces x.P t (pl[·]?)] [hz : TyZero x.P t (.agg ⟨z⟩)] (hv : evs E (ps.map (·.2)) = some vs) (h1 : vs.all (·.oneCell') = true)
    [hB : BuildL pl z ps vs out] : Yl x (.build t ⟨ps⟩) ty E ρ L (.agg ⟨out⟩) :=
  y_build (z := .agg ⟨z⟩) hv (hB.out h1)
/-- a copy of a map -/
theorem tl_mapsClone {d f b t : Nat} {o : Operand} {ats : Array TypeId} {es : Array MapEntry} {ck : Nat} {fn : Func} (ho : ev E o = some (.iface t (.map (some b)))) [hF : Find b L (.map es ck)]
    (hf : x.P.funcs[f]? = some fn) (hn : (fn.name == "runtime.NumGoroutine") = false) (hb : fn.body.isNone = true) (hx : Extern.findNext fn = none) (he : Extern.find fn = some Extern.MapsClone.clone) (hd : Nat.blt d x.N = true)
    (k : ∀ b', TL x ops rest Q ((d, .iface t (.map (some b'))) :: E) ρ ([(b', .map es ck)] :: L)) :
    TL x ops (⟨some d, .call { callee := .value (.func f), args := #[o], argTypes := ats }, ty, pos, af, none⟩ :: rest) Q E ρ L :=
  tl_new (g := fun b' => .iface t (.map (some b'))) (fun a w ha hw => by
    have hcl : (Extern.MapsClone.clone #[.iface t (.map (some b))]).run x.P w = .ok (.iface t (.map (some w.heap.size))) { w with heap := w.heap.push (.map es ck) } := by
      have e : Extern.MapsClone.clone #[.iface t (.map (some b))] = (getObj b >>= fun o => match o with
        | .map entries clock => (newObj (.map entries clock) >>= fun n => pure (.iface t (.map (some n))))
        | _ => stuck "maps.clone: a map expected") := rfl
      rw [e]
      simp [MapKept.run_getObj_map (hw.find hF), Result.andThen]
    have hcall := run_callFunc_extern hf hn hb hx he #[.iface t (.map (some b))] w
    rw [hcl] at hcall
    simp only [Result.andThen] at hcall
    have hargs : Array.map a.eval #[o] = #[.iface t (.map (some b))] := by simp [ha.eval ho]
    simp only [execOp, resolve, hargs, Act.eval, Deferred.ofValue, Sem.run_bind, Sem.run_pure, Result.andThen_ok, invoke]
    simpa using hcall) hd rfl k
end
end Go.Proofs.E

namespace Go.Proofs.E
open Go
set_option linter.unusedVariables false
set_option linter.unusedSimpArgs false

/-! ## a row that is built of parts -/
theorem fill_flat {sz : Nat} (h0 : 0 < sz) : ∀ (css : List (List Value)) (vs : List Value) (k : Nat) (done rest : List Value), done.length = k * sz → rest.length = css.length * sz → vs.map (·.cells) = css.map (fun c => (⟨c⟩ : Array Value)) → (∀ c ∈ css, c.length = sz) →
    Instr.fill (fun i => some (i * sz, sz)) ⟨done ++ rest⟩ ((List.range' k css.length).zip vs) = some ⟨done ++ css.flatten⟩
  | [], vs, k, done, rest, h1, h2, h3, h4 => by
    have : rest = [] := by simpa using h2
    simp [Instr.fill, this]
  | c :: css, [], k, done, rest, h1, h2, h3, h4 => by simp at h3
  | c :: css, v :: vs, k, done, rest, h1, h2, h3, h4 => by
    simp only [List.map_cons, List.cons.injEq] at h3
    have hc := h4 c (by simp)
    simp only [List.length_cons, Nat.add_mul, Nat.one_mul] at h2
    have hst : stc (done ++ rest) (k * sz) c = (done ++ c) ++ rest.drop sz := by
      unfold stc
      rw [← h1, List.take_left, List.drop_append, List.drop_eq_nil_of_le (by omega), hc]
      simp
    simp only [List.length_cons, List.range'_succ, List.zip_cons_cons]
    rw [fill_cons (size := sz) rfl h3.1 hc (by simp; omega), hst]
    have := fill_flat h0 css vs (k + 1) (done ++ c) (rest.drop sz) (by simp [h1, hc, Nat.add_mul]) (by simp; omega) h3.2 (fun d hd => h4 d (by simp [hd]))
    rw [this]; simp
section
variable {x : Cx} {Q : Exit → Act → World → Prop} {E : Env} {ρ : Hp} {L : SH} {ops : Array Oper} {rest : List Oper} {ty : TypeId} {pos : String} {af : Array Edge}
/-- a list that is written out, of parts of whatever size -/
theorem tl_buildSliceA {d t e len sz : Nat} {z : Value} {ps : List (Nat × Operand)} {vs : List Value} {css : List (List Value)} [hS : TySlice x.P t e] [hZ : TySz x.P e sz] [hz : TyZero x.P e z] (hv : evs E (ps.map (·.2)) = some vs)
    (hcs : vs.map (·.cells) = css.map (fun c => (⟨c⟩ : Array Value))) (hix : ps.map (·.1) = List.range' 0 css.length) (hlen : css.length = len) (hsz : ∀ c ∈ css, c.length = sz) (h0 : (0 < sz ∧ 0 < len * sz ∧ len * sz ≤ 16777216) = True) (hd : Nat.blt d x.N = true)
    (k : ∀ b, TL x ops rest Q ((d, .slice (some ⟨b, 0, none⟩) len len) :: E) ρ ([(b, .cells ⟨css.flatten⟩ e (0, 0))] :: L)) :
    TL x ops (⟨some d, .buildSlice t len ⟨ps⟩, ty, pos, af, none⟩ :: rest) Q E ρ L := by
  obtain ⟨g0, g1, g2⟩ := of_eq_true h0
  refine tl_buildSlice (sz := sz) hv (by simp [g1, g2]) ?_ hd k
  rw [hix]
  have := fill_flat g0 css vs 0 [] ((Array.range (len * sz)).map (fun i : Nat => z.cells[i % z.cells.size]!)).toList (by simp) (by simp [hlen]) hcs hsz
  simp only [List.nil_append] at this
  exact this

/-! what is made may be frozen: from then on it never turns -/
theorem tl_freeze {l : List Oper} {L' : SH} (c : List (Nat × Obj)) [h : Rem c L L'] (k : ∀ ρ', ρ.le ρ' → (∀ p ∈ c, ρ' p.1 = some p.2) → TL x ops l Q E ρ' L') : TL x ops l Q E ρ L := fun a w ha hw => by
  obtain ⟨h1, h2, h3⟩ := (hw.perm (L' := c :: L') (by simpa using h.out)).freeze
  exact k _ h2 h3 a w ha h1
theorem te_freeze {e : Exit} {L' : SH} (c : List (Nat × Obj)) [h : Rem c L L'] (k : ∀ ρ', ρ.le ρ' → (∀ p ∈ c, ρ' p.1 = some p.2) → TE x e Q E ρ' L') : TE x e Q E ρ L := fun a w ha hw => by
  obtain ⟨h1, h2, h3⟩ := (hw.perm (L' := c :: L') (by simpa using h.out)).freeze
  exact k _ h2 h3 a w ha h1
theorem tc_freeze {y : Code} {L' : SH} (c : List (Nat × Obj)) [h : Rem c L L'] (k : ∀ ρ', ρ.le ρ' → (∀ p ∈ c, ρ' p.1 = some p.2) → TC x y Q E ρ' L') : TC x y Q E ρ L := fun a w ha hw => by
  obtain ⟨h1, h2, h3⟩ := (hw.perm (L' := c :: L') (by simpa using h.out)).freeze
  exact k _ h2 h3 a w ha h1

/-! shifts, division, negation -/
theorem y_shr {p q : Operand} {t t' : TypeId} {k k' : IntKind} {m n : Int} {c : Nat} (h1 : ev E p = some (.int k m)) (h2 : ev E q = some (.int k' n)) (h0 : 0 ≤ n) (hc : min n.toNat k.bits = c) : Yl x (.binOp .shr t p q t') ty E ρ L (.int k (m / 2 ^ c)) := fun a w _ _ _ _ ha _ => by
  have hn : ¬ n < 0 := by omega
  have hp : (0 : Int) ≤ 2 ^ c := by exact Int.le_of_lt (Int.pow_pos (by decide))
  have hf : m.fdiv (2 ^ c) = m / 2 ^ c := Int.fdiv_eq_ediv_of_nonneg m hp
  simp [execOp, ha.eval h1, ha.eval h2, eqGuard, binOp, Op.shift, hn, hc, hf]
theorem y_shl {p q : Operand} {t t' : TypeId} {k k' : IntKind} {m n : Int} {c : Nat} (h1 : ev E p = some (.int k m)) (h2 : ev E q = some (.int k' n)) (h0 : 0 ≤ n) (hc : min n.toNat k.bits = c) : Yl x (.binOp .shl t p q t') ty E ρ L (.int k (k.wrap (m * 2 ^ c))) := fun a w _ _ _ _ ha _ => by
  have hn : ¬ n < 0 := by omega
  simp [execOp, ha.eval h1, ha.eval h2, eqGuard, binOp, Op.shift, hn, hc]
theorem y_neg {p : Operand} {t : TypeId} {k : IntKind} {n : Int} (h1 : ev E p = some (.int k n)) : Yl x (.unOp .neg t p) ty E ρ L (.int k (k.wrap (0 - n))) := fun a w _ _ _ _ ha _ => by
  simp [execOp, ha.eval h1, Op.unary, Op.intArith]
theorem y_cap {p : Operand} {t e : TypeId} {s : Option Addr} {n c : Nat} [hS : TySlice x.P t e] (h : ev E p = some (.slice s n c)) : Yl x (.call { callee := .builtin .cap, args := #[p], argTypes := #[t] }) ty E ρ L (.int .i64 c) := fun a w _ _ _ _ ha _ => by
  simp [execOp, ha.eval h, resolve, invoke, builtin, Builtin.cap_, underlying, hS.out, goInt]
class TyBool (P : Program) (t : TypeId) : Prop where
  out : P.underlying t = some .bool
theorem run_equal_bool {P : Program} {t : TypeId} (hP : TyBool P t) (b c : Bool) (w : World) : (Op.equal t (.bool b) (.bool c)).run P w = .ok (b == c) w := by
  have hd : Op.maxDepth = 9999 + 1 := rfl
  rw [Op.equal, hd, Op.equalIn]
  simp only [Sem.run_bind, underlying, run_program, Result.andThen_ok, hP.out, Sem.run_pure]
theorem y_bool_eq {o : BinOp} {p q : Operand} {t t' : TypeId} {b c r : Bool} [hP : TyBool x.P t] (h1 : ev E p = some (.bool b)) (h2 : ev E q = some (.bool c)) (hr : eqB o (b == c) = some r) : Yl x (.binOp o t p q t') ty E ρ L (.bool r) :=
  y_eq h1 h2 rfl (fun w => run_equal_bool hP b c w) hr
theorem eqB_bool_self {b : Bool} : eqB .eql (b == b) = some true := by simp [eqB]
theorem eqB_bool_nself {b : Bool} : eqB .neq (b == b) = some false := by simp [eqB]
/-- a part of a slice -/
theorem run_slice_lh {P : Program} {w : World} {t e sz : Nat} {a : Option Addr} {len cap : Nat} (ht : P.underlying t = some (.slice e)) (hsz : (sizeOf e).run P w = .ok sz w) {lo hi' : Option Value} {l h : Nat}
    (hl : (match lo with | some v => ∃ k, v = .int k (l : Int) | none => l = 0)) (hh : (match hi' with | some v => ∃ k, v = .int k (h : Int) | none => h = len)) (h1 : l ≤ h) (h2 : h ≤ cap) (h3 : len ≤ cap) :
    (Instr.slice t (.slice a len cap) lo hi' none).run P w = .ok (.slice (if cap = l then a else a.map (·.add (l * sz))) (h - l) (cap - l)) w := by
  cases lo with
  | none =>
    cases hi' with
    | none => subst hl; subst hh; simp [Instr.slice, underlying, ht, Instr.sliceBounds, hsz]
    | some v => subst hl; obtain ⟨k, rfl⟩ := hh; simp [Instr.slice, underlying, ht, Instr.sliceBounds, Instr.sliceBound, asIntOf, h2, hsz]
  | some u =>
    obtain ⟨k, rfl⟩ := hl
    cases hi' with
    | none => subst hh; simp [Instr.slice, underlying, ht, Instr.sliceBounds, Instr.sliceBound, asIntOf, h1, hsz]
    | some v => obtain ⟨k', rfl⟩ := hh; simp [Instr.slice, underlying, ht, Instr.sliceBounds, Instr.sliceBound, asIntOf, h1, h2, hsz]
end
end Go.Proofs.E

namespace Go.Proofs.E
open Go Go.Lib
set_option linter.unusedVariables false
set_option linter.unusedSimpArgs false
set_option linter.unusedSectionVars false

/-! ## scopes -/
def noGotoQ (Q : Exit → Act → World → Prop) : Exit → Act → World → Prop
  | .goto _, _, _ => False
  | e, a, w => Q e a w
theorem stepR_scope {P : Program} {b : Frame} {a : Act} {k : List Item} {cs : List Frame} {w : World} {c : Code} : step P (lone (b.atR a (.code (.scope c) :: k)) cs w) = .next (lone (b.atR a (.code c :: .inScope c :: k)) cs w) :=
  step_lone_go (by simp [stepG, stepG.exec, Frame.atR])
theorem stepR_inScope {P : Program} {b : Frame} {a : Act} {k : List Item} {cs : List Frame} {w : World} {c : Code} : step P (lone (b.atR a (.inScope c :: k)) cs w) = .next (lone (b.atR a k) cs w) :=
  step_lone_go (by simp [stepG, stepG.exec, Frame.atR])
theorem wpIn_scope {F : Fence} {n : Nat} {P : Program} {a : Act} {w : World} {Q : Exit → Act → World → Prop} {c : Code} (h : c.wpIn F n P (noGotoQ Q) a w) : (Code.scope c).wpIn F n P Q a w := by
  intro b k cs hro hb hr
  have h0 : (lone (b.atR a (.code (.scope c) :: k)) cs w).fenced P F := fenced_calm hb hr rfl
  obtain ⟨e, a₁, w₁, hq, harr⟩ := h b (.inScope c :: k) cs hro hb hr
  cases e with
  | normal => exact ⟨.normal, a₁, w₁, hq, .head h0 stepR_scope (StepsIn.trans harr (.one (fenced_calm hb hr rfl) stepR_inScope))⟩
  | exit id =>
    have hx : exitTo id (.inScope c :: k) = exitTo id k := by simp [exitTo]
    exact ⟨.exit id, a₁, w₁, hq, fun k' hk => .head h0 stepR_scope (harr.1 k' (by rw [hx]; exact hk)),
      fun hr' hk => let ⟨k₁, h1, h2⟩ := harr.2 hr' (by rw [hx]; exact hk); ⟨k₁, h1, .head h0 stepR_scope h2⟩⟩
  | goto l => exact hq.elim
  | ret => exact ⟨_, a₁, w₁, hq, .of_steps (.one h0 stepR_scope) harr⟩
  | panic ch => exact ⟨_, a₁, w₁, hq, .of_steps (.one h0 stepR_scope) harr⟩
  | outgrown => exact ⟨_, a₁, w₁, hq, .of_steps (.one h0 stepR_scope) harr⟩
section
variable {x : Cx} {Q : Exit → Act → World → Prop} {E : Env} {ρ : Hp} {L : SH}
theorem tc_scope {c : Code} (h : TC x c (noGotoQ Q) E ρ L) : TC x (.scope c) Q E ρ L := fun a w ha hw => wpIn_scope (h a w ha hw)
theorem te_scope_normal (h : TE x .normal Q E ρ L) : TE x .normal (noGotoQ Q) E ρ L := h
theorem te_scope_exit {id} (h : TE x (.exit id) Q E ρ L) : TE x (.exit id) (noGotoQ Q) E ρ L := h
theorem te_scope_ret (h : TE x .ret Q E ρ L) : TE x .ret (noGotoQ Q) E ρ L := h
end

/-! ## strings -/
@[reducible] def strV (l : List UInt8) : Value := .string ⟨⟨l⟩⟩
theorem str_size (l : List UInt8) : (⟨⟨l⟩⟩ : ByteArray).size = l.length := rfl
theorem str_extract (l : List UInt8) (a b : Nat) : (⟨⟨l⟩⟩ : ByteArray).extract a b = ⟨⟨(l.drop a).take (b - a)⟩⟩ := by
  apply ByteArray.ext
  simp only [ByteArray.data_extract]
  apply Array.ext'
  simp [List.extract]
theorem strCells_eq (l : List UInt8) : strCells ⟨⟨l⟩⟩ = l.map u8c := by simp [strCells, u8c]
section
variable {x : Cx} {Q : Exit → Act → World → Prop} {E : Env} {ρ : Hp} {L L1 : SH} {ops : Array Oper} {rest tail : List Oper} {ty : TypeId} {pos : String} {af : Array Edge}
theorem y_len_str {p : Operand} {t : TypeId} {l : List UInt8} [hS : TyStr x.P t] (h : ev E p = some (strV l)) : Yl x (.call { callee := .builtin .len, args := #[p], argTypes := #[t] }) ty E ρ L (.int .i64 l.length) := fun a w _ _ _ _ ha _ => by
  simp [execOp, ha.eval h, resolve, invoke, builtin, Builtin.len_, underlying, hS.out, goInt, str_size]
theorem y_slice_str_h {o h : Operand} {t : Nat} {l : List UInt8} {k : IntKind} {n : Int} (ho : ev E o = some (strV l)) (hh : ev E h = some (.int k n)) [hS : TyStr x.P t] (h0 : 0 ≤ n) (h1 : n ≤ l.length) :
    Yl x (.slice t o none (some h) none) ty E ρ L (strV (l.take n.toNat)) := fun a' w _ _ _ _ ha hw => by
  have := run_slice_string_h (P := x.P) w t ⟨⟨l⟩⟩ hS.out k n h0 (by rw [str_size]; exact h1)
  rw [str_extract, List.drop_zero, Nat.sub_zero] at this
  simp only [execOp, ha.eval ho, ha.eval hh, Option.map_some, Option.map_none, Sem.run_bind, run_sliceAt_string _ _ _ _ _ _ hS.out, this, Result.andThen_ok, Sem.run_pure]
theorem y_slice_str_l {o h : Operand} {t : Nat} {l : List UInt8} {k : IntKind} {n : Int} (ho : ev E o = some (strV l)) (hh : ev E h = some (.int k n)) [hS : TyStr x.P t] (h0 : 0 ≤ n) (h1 : n ≤ l.length) :
    Yl x (.slice t o (some h) none none) ty E ρ L (strV (l.drop n.toNat)) := fun a' w _ _ _ _ ha hw => by
  have := run_slice_string_l (P := x.P) w t ⟨⟨l⟩⟩ hS.out k n h0 (by rw [str_size]; exact h1)
  rw [str_extract, str_size, List.take_of_length_le (by simp)] at this
  simp only [execOp, ha.eval ho, ha.eval hh, Option.map_some, Option.map_none, Sem.run_bind, run_sliceAt_string _ _ _ _ _ _ hS.out, this, Result.andThen_ok, Sem.run_pure]
theorem str_beq (l m : List UInt8) : ((⟨⟨l⟩⟩ : ByteArray).toList == (⟨⟨m⟩⟩ : ByteArray).toList) = decide (l = m) := by
  rw [ByteArray.toList_eq, ByteArray.toList_eq]
  by_cases h : l = m
  · subst h; simp
  · simp [h]
theorem y_str_eq {o : BinOp} {p q : Operand} {t t' : TypeId} {l m : List UInt8} {r : Bool} (h1 : ev E p = some (strV l)) (h2 : ev E q = some (strV m)) (hr : eqB o (decide (l = m)) = some r) : Yl x (.binOp o t p q t') ty E ρ L (.bool r) := fun a w _ _ _ _ ha _ => by
  have hb := str_beq l m
  cases o <;> simp only [eqB, Option.some.injEq, reduceCtorEq] at hr <;> subst hr <;> simp [execOp, ha.eval h1, ha.eval h2, eqGuard, binOp, Op.stringOp, ← hb, beq_toListBytes]

/-! ## what is read of a slice -/
def SrcV (x : Cx) (ρ : Hp) (L : SH) (a : Option Addr) (ys : List Value) : Prop := ys = [] ∨ ∃ b off, a = some ⟨b, off, none⟩ ∧ Src x ρ L b off ys
theorem y_conv_bs {p : Operand} {s t e : TypeId} {a : Option Addr} {n c : Nat} {l : List UInt8} [hT : TyStr x.P t] [hS : TySlice x.P s e] [hE : TyInt x.P e .u8] (h : ev E p = some (.slice a n c)) (hs : SrcV x ρ L a (l.map u8c)) (hn : l.length = n) :
    Yl x (.convert s t p) ty E ρ L (strV l) := fun a' w _ _ _ _ ha hw => by
  have key : (Conv.bytesToString (.slice a n c)).run x.P w = .ok (strV l) w := by
    by_cases h0 : l = []
    · subst h0
      have hn0 : n = 0 := by simpa using hn.symm
      subst hn0
      cases a with
      | none => simp [Conv.bytesToString]; rfl
      | some ad =>
        have hl : (loadCells ad 0).run x.P w = .ok #[] w := by simpa using run_loadCells_list (P := x.P) w ad [] (by simp)
        have := run_bytesToString (P := x.P) w ad 0 c [] hl
        simp only [List.foldl_nil] at this
        exact this
    · obtain ⟨b, off, rfl, hsrc⟩ := hs.resolve_left (by simpa using h0)
      have hl := run_loadCells_list (P := x.P) w ⟨b, off, none⟩ (l.map u8c) (fun j v hj => by rw [addr_add]; exact hsrc w hw j v hj)
      have hmm : (l.map u8c) = (l.map fun b => (b.toNat : Int)).map (Value.int .u8) := by simp [u8c]
      rw [List.length_map, hn, hmm] at hl
      have := run_bytesToString (P := x.P) w ⟨b, off, none⟩ n c _ hl
      rw [this]
      congr 1
      have hf : ∀ (l : List UInt8) (r : ByteArray), (l.map fun b => (b.toNat : Int)).foldl (fun r n => r.push (UInt8.ofNat n.toNat)) r = r ++ ⟨⟨l⟩⟩ := by
        intro l
        induction l with
        | nil => intro r; apply ByteArray.ext; simp
        | cons b l ih =>
          intro r
          simp only [List.map_cons, List.foldl_cons, ih]
          apply ByteArray.ext
          simp only [ByteArray.data_append, ByteArray.data_push, Int.toNat_natCast, UInt8.ofNat_toNat]
          apply Array.ext'
          simp
      rw [hf]
      congr 1
  have hsu : (underlying s).run x.P w = .ok (.slice e) w := by simp [underlying, hS.out]
  have heu : (underlying e).run x.P w = .ok (.int .u8) w := by simp [underlying, hE.out]
  have htu : (underlying t).run x.P w = .ok .string w := by simp [underlying, hT.out]
  simp only [execOp, ha.eval h, convert, Sem.run_bind, hsu, htu, heu, Result.andThen_ok, key, Sem.run_pure]

theorem OwnS.slice {v n xs sp sz} (h : OwnS v n xs sp sz) : ∃ a cap, v = .slice a n cap ∧ n ≤ cap := by
  rcases h.out with ⟨rfl, rfl, rfl, rfl⟩ | ⟨b, cap, rfl, h1, h2, h3⟩
  · exact ⟨none, 0, rfl, Nat.le_refl _⟩
  · exact ⟨_, cap, rfl, h3⟩
/-- 'append(s, y...)', whatever is appended -/
theorem tl_app {d t e sz by' n m cx : Nat} {s y : Operand} {v z : Value} {xs sp ys : List Value} {a : Option Addr} [hS : TySlice x.P t e] [hZ : TySz x.P e sz] [hB : TyBytes x.P e by'] [hz : TyZero x.P e z]
    (hs : ev E s = some v) (hy : ev E y = some (.slice a m cx)) (hown : OwnS v n xs sp sz) [hR : Rem (ownC v xs sp e) L L1] (hsrc : SrcV x ρ L1 a ys) (hlen : ys.length = m * sz)
    (h1 : ys.all (·.oneCell') = true) (hsz : 0 < sz) (hzs : z.cells.toList.length = sz) (hb : (n + m) * by' ≤ 140737488355328) (hm : n + m ≤ 9223372036854775807) (hd : Nat.blt d x.N = true)
    (k : ∀ v' sp', OwnS v' (n + m) (xs ++ ys) sp' sz → TL x ops rest Q ((d, v') :: E) ρ (ownC v' (xs ++ ys) sp' e :: L1)) :
    TL x ops (⟨some d, .call { callee := .builtin .append, args := #[s, y], argTypes := #[t, t] }, ty, pos, af, none⟩ :: rest) Q E ρ L := by
  by_cases h0 : m = 0
  · subst h0
    have hy0 : ys = [] := List.eq_nil_of_length_eq_zero (by rw [hlen]; simp)
    subst hy0
    obtain ⟨a', cap, rfl, hc⟩ := hown.slice
    have := k (.slice a' n cap) sp (by simpa using hown)
    rw [List.append_nil] at this
    exact tl_y (y_append0 hs hy hc) hd rfl (this.perm (by simpa using hR.out))
  · have hne : ys ≠ [] := fun h => by
      rw [h] at hlen
      have : 0 < m * sz := Nat.mul_pos (by omega) hsz
      simp at hlen; omega
    obtain ⟨b, off, rfl, hsr⟩ := hsrc.resolve_left hne
    exact tl_append hs hy hown hsr hlen h1 (by omega) hzs hb hm hd k
/-- 'append(s, string...)' -/
theorem tl_app_str {d t u e n : Nat} {s y : Operand} {v : Value} {xs sp : List Value} {l : List UInt8} [hS : TySlice x.P t e] [hU : TyStr x.P u] [hZ : TySz x.P e 1] [hB : TyBytes x.P e 1] [hz : TyZero x.P e (.int .u8 0)]
    (hs : ev E s = some v) (hy : ev E y = some (strV l)) (hown : OwnS v n xs sp 1) [hR : Rem (ownC v xs sp e) L L1] (hb : n + l.length ≤ 140737488355328) (hd : Nat.blt d x.N = true)
    (k : ∀ v' sp', OwnS v' (n + l.length) (xs ++ l.map u8c) sp' 1 → TL x ops rest Q ((d, v') :: E) ρ (ownC v' (xs ++ l.map u8c) sp' e :: L1)) :
    TL x ops (⟨some d, .call { callee := .builtin .append, args := #[s, y], argTypes := #[t, u] }, ty, pos, af, none⟩ :: rest) Q E ρ L := fun a w ha hw => by
  refine wpListIn_intro rfl rfl ?_
  have hw' := hw.perm (L' := ownC v xs sp e :: L1) (by simpa using hR.out)
  have hwL : Sat x.u ρ L1 w := hw'.sub (by simp)
  obtain ⟨i, g1, g2⟩ := hZ.out
  obtain ⟨i2, g3, g4⟩ := hB.out
  obtain ⟨i3, g5, g6⟩ := hz.out
  rw [g1] at g3 g5
  cases g3; cases g5
  have hexec : ∀ (v' : Value) (w' : World), (Builtin.append_ #[t, u] ty #[v, strV l]).run x.P w = .ok v' w' →
      (execOp a.eval ⟨some d, .call { callee := .builtin .append, args := #[s, y], argTypes := #[t, u] }, ty, pos, af, none⟩).run x.P w = .ok (.value v') w' := fun v' w' hr => by
    simp only [execOp, resolve, Sem.run_bind, Sem.run_pure, Result.andThen_ok, invoke, builtin]
    have hargs : Array.map a.eval #[s, y] = #[v, strV l] := by simp [ha.eval hs, ha.eval hy]
    rw [hargs, hr]
    rfl
  have hgc : ∀ (w : World) (need old : Nat), need ≤ grownCap w need old e := fun w need old => by simp only [grownCap, Question.cut]; omega
  have hzc : (Value.int IntKind.u8 0).cells = #[Value.int .u8 0] := rfl
  have hzl : ∀ c, (Builtin.zeroCells (Value.int IntKind.u8 0).cells c).toList.length = c := fun c => by
    have := size_zeroCells (Value.int IntKind.u8 0).cells c
    rw [Array.length_toList, this, hzc]; simp
  by_cases hl0 : l = []
  · subst hl0
    obtain ⟨a', cap, rfl, hc⟩ := hown.slice
    have hr : (Builtin.append_ #[t, u] ty #[.slice a' n cap, strV []]).run x.P w = .ok (.slice a' n cap) w := by
      rcases hown.out with ⟨e1, rfl, rfl, rfl⟩ | ⟨b, cap', e1, e2, e3, e4⟩
      · cases e1
        have hf := run_firstCells_string (P := x.P) w 1 ⟨⟨[]⟩⟩
        simp [Builtin.append_, run_underlying hS.out, run_underlying hU.out, sizeOf, typeInfo, g1, g2, Builtin.lenOf, str_size] at hf ⊢
        simp [hf]
      · cases e1
        have hbk : w.heap[b]? = some (.cells ⟨xs ++ sp⟩ e (0, 0)) := hw'.here (b, .cells ⟨xs ++ sp⟩ e (0, 0)) (by simp [ownC])
        have := run_append_room_string (P := x.P) w t u ty e i hS.out hU.out g1 g2 b n cap ⟨xs ++ sp⟩ hbk ⟨⟨[]⟩⟩ (by rw [str_size]; simpa using e4) (by rw [str_size]; simp; omega)
        rw [this]
        simp only [str_size, List.length_nil, Nat.add_zero, strCells_eq, List.map_nil, List.append_nil]
        congr 1
        rw [List.take_append_drop, setRow_eq hbk]
        have hq := (Array.getElem?_eq_some_iff.1 hbk).1
        have hset : w.heap.setIfInBounds b (.cells ⟨xs ++ sp⟩ e (0, 0)) = w.heap := by
          apply Array.ext_getElem?
          intro j
          by_cases hj : b = j
          · subst hj; rw [hbk]; simp [hq]
          · rw [Array.getElem?_setIfInBounds_ne hj]
        unfold putB
        rw [hset]
    rw [hexec _ _ hr]
    have := k (.slice a' n cap) sp (by simpa using hown) _ w (ha.put (Nat.le_of_ble_eq_true hd) _) (by simpa using hw')
    exact this
  · have hpos : 0 < l.length := List.length_pos_iff.2 hl0
    rcases hown.out with ⟨rfl, rfl, rfl, rfl⟩ | ⟨b, cap, rfl, e1, e2, e3⟩
    · have hrun := run_append_nil_string (P := x.P) w t u ty e i _ hS.out hU.out g1 g6 ⟨⟨l⟩⟩ (by rw [str_size]; exact hpos) (by rw [str_size]; omega) (by rw [str_size, g4]; omega)
      rw [hexec _ _ hrun]
      simp only [str_size] at *
      have hs2 := (hwL.drew).new (.cells ((⟨l⟩ : Array UInt8).map (fun b => Value.int .u8 b.toNat) ++ Builtin.zeroCells (Value.int .u8 0).cells (grownCap w l.length 0 e - l.length)) e (0, 0))
      have hg := hgc w l.length 0
      refine k (.slice (some ⟨w.heap.size, 0, none⟩) (0 + l.length) (grownCap w l.length 0 e)) (Builtin.zeroCells (Value.int .u8 0).cells (grownCap w l.length 0 e - l.length)).toList ?_ _ _ (by
        have := ha.put (Nat.le_of_ble_eq_true hd) (.slice (some ⟨w.heap.size, 0, none⟩) l.length (grownCap w l.length 0 e)); simpa using this) ?_
      · refine ⟨.inr ⟨w.heap.size, grownCap w l.length 0 e, rfl, by simp, ?_, by omega⟩⟩
        rw [hzl]; simp; omega
      · have : ownC (.slice (some ⟨w.heap.size, 0, none⟩) (0 + l.length) (grownCap w l.length 0 e)) ([] ++ l.map u8c) (Builtin.zeroCells (Value.int .u8 0).cells (grownCap w l.length 0 e - l.length)).toList e = [(w.heap.size, .cells ((⟨l⟩ : Array UInt8).map (fun b => Value.int .u8 b.toNat) ++ Builtin.zeroCells (Value.int .u8 0).cells (grownCap w l.length 0 e - l.length)) e (0, 0))] := by
          simp only [ownC, List.nil_append]
          congr 3
          apply Array.ext'; simp [u8c]
        rw [this]
        exact hs2
    · have hbk : w.heap[b]? = some (.cells ⟨xs ++ sp⟩ e (0, 0)) := hw'.here (b, .cells ⟨xs ++ sp⟩ e (0, 0)) (by simp [ownC])
      by_cases hroom : n + l.length ≤ cap
      · have hylen : (l.map u8c).length ≤ sp.length := by simp; omega
        have hrun := run_append_room_string (P := x.P) w t u ty e i hS.out hU.out g1 g2 b n cap ⟨xs ++ sp⟩ hbk ⟨⟨l⟩⟩ (by rw [str_size]; exact hroom) (by rw [str_size]; simp; omega)
        rw [hexec _ _ hrun]
        simp only [str_size, strCells_eq]
        have hset : w.setRow b (List.take n (xs ++ sp) ++ l.map u8c ++ List.drop (n + l.length) (xs ++ sp)).toArray = putB w b (.cells ⟨(xs ++ l.map u8c) ++ sp.drop (l.map u8c).length⟩ e (0, 0)) := by
          rw [setRow_eq hbk]
          have := stc_end xs sp (l.map u8c) hylen
          unfold stc at this
          rw [Nat.mul_one] at e1
          rw [← this, e1]
          simp
        have hs2 := hw'.put (.cells ⟨(xs ++ l.map u8c) ++ sp.drop (l.map u8c).length⟩ e (0, 0))
        refine k (.slice (some ⟨b, 0, none⟩) (n + l.length) cap) (sp.drop (l.map u8c).length) ⟨.inr ⟨b, cap, rfl, by simp [e1], by simp; omega, hroom⟩⟩ _ _ (ha.put (Nat.le_of_ble_eq_true hd) _) ?_
        rw [hset]
        exact hs2
      · have hold : ∀ j c, xs[j]? = some c → w.cell? ((⟨b, 0, none⟩ : Addr).add j) = some c := fun j c hj => by
          rw [addr_add]
          simp only [World.cell?, hbk, Option.isSome_none, Bool.false_eq_true, if_false, Nat.zero_add]
          have hlt := (List.getElem?_eq_some_iff.1 hj).1
          simp only [List.getElem?_toArray]
          rw [List.getElem?_append_left hlt]; exact hj
        have hfit : Builtin.nextslicecap (n + l.length) cap * 1 ≤ 281474976710656 := growslice_fits (by omega) (by omega)
        have hrun := run_append_grow_string (P := x.P) w t u ty e i _ hS.out hU.out g1 g6 ⟨b, 0, none⟩ n cap xs (by rw [g2]; exact e1) hold ⟨⟨l⟩⟩ (by rw [str_size]; omega) (by rw [str_size]; omega) (by rw [str_size, g4]; exact hfit)
        rw [hexec _ _ hrun]
        simp only [str_size, strCells_eq]
        have hs2 := (hwL.drew).new (.cells (xs.toArray ++ (l.map u8c).toArray ++ Builtin.zeroCells (Value.int .u8 0).cells (grownCap w (n + l.length) cap e - (n + l.length))) e (0, 0))
        have hg := hgc w (n + l.length) cap
        refine k (.slice (some ⟨w.heap.size, 0, none⟩) (n + l.length) (grownCap w (n + l.length) cap e)) (Builtin.zeroCells (Value.int .u8 0).cells (grownCap w (n + l.length) cap e - (n + l.length))).toList ?_ _ _ (ha.put (Nat.le_of_ble_eq_true hd) _) ?_
        · refine ⟨.inr ⟨w.heap.size, _, rfl, by simp [e1], ?_, hg⟩⟩
          rw [hzl]; simp [e1]; omega
        · have : ownC (.slice (some ⟨w.heap.size, 0, none⟩) (n + l.length) (grownCap w (n + l.length) cap e)) (xs ++ l.map u8c) (Builtin.zeroCells (Value.int .u8 0).cells (grownCap w (n + l.length) cap e - (n + l.length))).toList e = [(w.heap.size, .cells (xs.toArray ++ (l.map u8c).toArray ++ Builtin.zeroCells (Value.int .u8 0).cells (grownCap w (n + l.length) cap e - (n + l.length))) e (0, 0))] := by
            simp only [ownC]
            congr 3
            apply Array.ext'; simp
          rw [this]
          exact hs2
end
end Go.Proofs.E

namespace Go.Proofs.E
open Go Go.Lib
set_option linter.unusedVariables false
set_option linter.unusedSimpArgs false
set_option linter.unusedSectionVars false
section
variable {x : Cx} {Q : Exit → Act → World → Prop} {E : Env} {ρ : Hp} {L L1 : SH} {ops : Array Oper} {rest tail : List Oper} {ty : TypeId} {pos : String} {af : Array Edge}
/-! ## parts of slices -/
theorem y_slice_lh {o h g : Operand} {t e sz len cap : Nat} {a : Option Addr} {k k' : IntKind} {lo' hi' : Int} (ho : ev E o = some (.slice a len cap)) (hg : ev E g = some (.int k' lo')) (hh : ev E h = some (.int k hi')) [hS : TySlice x.P t e] [hZ : TySz x.P e sz]
    (h0 : 0 ≤ lo') (h1 : lo' ≤ hi') (h2 : hi' ≤ cap) (h3 : len ≤ cap) :
    Yl x (.slice t o (some g) (some h) none) ty E ρ L (.slice (if cap = lo'.toNat then a else a.map (·.add (lo'.toNat * sz))) (hi'.toNat - lo'.toNat) (cap - lo'.toNat)) := fun a' w _ _ _ _ ha hw => by
  obtain ⟨inf, g1, g2⟩ := hZ.out
  have hel : x.P.elem t = e := by simp [Program.elem, hS.out]
  have ht : x.P.underlying t = some (.slice (x.P.elem t)) := by rw [hel]; exact hS.out
  have hsz : (sizeOf e).run x.P w = .ok sz w := by simp [sizeOf, typeInfo, g1, g2]
  have := run_slice_lh (P := x.P) (w := w) (t := t) (e := e) (sz := sz) (a := a) (len := len) (cap := cap) hS.out hsz (lo := some (.int k' lo')) (hi' := some (.int k hi')) (l := lo'.toNat) (h := hi'.toNat) ⟨k', by rw [Int.toNat_of_nonneg h0]⟩ ⟨k, by rw [Int.toNat_of_nonneg (by omega)]⟩ (by omega) (by omega) h3
  simp only [execOp, ha.eval ho, ha.eval hh, ha.eval hg, Option.map_some, Option.map_none, Sem.run_bind, run_sliceAt_slice _ _ _ _ _ _ ht, this, Result.andThen_ok, Sem.run_pure]
theorem y_slice_l {o g : Operand} {t e sz len cap : Nat} {a : Option Addr} {k' : IntKind} {lo' : Int} (ho : ev E o = some (.slice a len cap)) (hg : ev E g = some (.int k' lo')) [hS : TySlice x.P t e] [hZ : TySz x.P e sz]
    (h0 : 0 ≤ lo') (h1 : lo' ≤ len) (h3 : len ≤ cap) :
    Yl x (.slice t o (some g) none none) ty E ρ L (.slice (if cap = lo'.toNat then a else a.map (·.add (lo'.toNat * sz))) (len - lo'.toNat) (cap - lo'.toNat)) := fun a' w _ _ _ _ ha hw => by
  obtain ⟨inf, g1, g2⟩ := hZ.out
  have hel : x.P.elem t = e := by simp [Program.elem, hS.out]
  have ht : x.P.underlying t = some (.slice (x.P.elem t)) := by rw [hel]; exact hS.out
  have hsz : (sizeOf e).run x.P w = .ok sz w := by simp [sizeOf, typeInfo, g1, g2]
  have := run_slice_lh (P := x.P) (w := w) (t := t) (e := e) (sz := sz) (a := a) (len := len) (cap := cap) hS.out hsz (lo := some (.int k' lo')) (hi' := none) (l := lo'.toNat) (h := len) ⟨k', by rw [Int.toNat_of_nonneg h0]⟩ rfl (by omega) h3 h3
  simp only [execOp, ha.eval ho, ha.eval hg, Option.map_some, Option.map_none, Sem.run_bind, run_sliceAt_slice _ _ _ _ _ _ ht, this, Result.andThen_ok, Sem.run_pure]
/-! ## copy, insert -/
theorem Upd.same {b : Nat} {L : SH} {o : Obj} {f : Obj → SH} (h : Upd b L o f) : f o = L := by
  obtain ⟨pre, post, h1, h2⟩ := h.out
  rw [h2, h1]
theorem tl_copy {d dT sT e b o dl dc sl sc : Nat} {T : TypeId} {dst src : Operand} {a : Option Addr} {l ys : List Value} {f : Obj → SH} [hS : TySlice x.P dT e] [hZ : TySz x.P e 1]
    (hdst : ev E dst = some (.slice (some ⟨b, o, none⟩) dl dc)) (hs : ev E src = some (.slice a sl sc)) [hU : Upd b L (.cells ⟨l⟩ T (0, 0)) f] (hsrc : SrcV x ρ L a ys) (hlen : ys.length = sl)
    (h1 : ys.all (·.oneCell') = true) (hfit : o + min sl dl ≤ l.length) (hd : Nat.blt d x.N = true)
    (k : TL x ops rest Q ((d, .int .i64 (min sl dl : Nat)) :: E) ρ (f (.cells ⟨stc l o (ys.take dl)⟩ T (0, 0)))) :
    TL x ops (⟨some d, .call { callee := .builtin .copy, args := #[dst, src], argTypes := #[dT, sT] }, ty, pos, af, none⟩ :: rest) Q E ρ L := fun a' w ha hw => by
  refine wpListIn_intro rfl rfl ?_
  obtain ⟨inf, g1, g2⟩ := hZ.out
  have hs1 : (x.P.info? e).map (·.size) = some 1 := by rw [g1]; simp [g2]
  obtain ⟨hw2, hb⟩ := hw.upd hU (.cells ⟨stc l o (ys.take dl)⟩ T (0, 0))
  have hcl : (ys.take dl).length = min sl dl := by rw [List.length_take, hlen, Nat.min_comm]
  have hexec : ∀ (w' : World), (Builtin.copy_ #[dT, sT] ty #[.slice (some ⟨b, o, none⟩) dl dc, .slice a sl sc]).run x.P w = .ok (goInt (min sl dl : Nat)) w' →
      (execOp a'.eval ⟨some d, .call { callee := .builtin .copy, args := #[dst, src], argTypes := #[dT, sT] }, ty, pos, af, none⟩).run x.P w = .ok (.value (.int .i64 (min sl dl : Nat))) w' := fun w' hr => by
    simp only [execOp, resolve, Sem.run_bind, Sem.run_pure, Result.andThen_ok, invoke, builtin]
    have hargs : Array.map a'.eval #[dst, src] = #[.slice (some ⟨b, o, none⟩) dl dc, .slice a sl sc] := by simp [ha.eval hdst, ha.eval hs]
    rw [hargs, hr]
    rfl
  by_cases h0 : ys.take dl = []
  · have hm0 : min sl dl = 0 := by rw [← hcl, h0]; rfl
    have hr := run_copy_none (P := x.P) w dT sT ty e (some ⟨b, o, none⟩) a dl dc sl sc hS.out hs1 hm0
    rw [hexec w (by rw [hm0]; exact hr)]
    have hst : stc l o (ys.take dl) = l := by rw [h0]; simp [stc]
    rw [hst, hU.same] at k
    exact k _ _ (ha.put (Nat.le_of_ble_eq_true hd) _) hw
  · obtain ⟨b2, off, rfl, hsr⟩ := hsrc.resolve_left (fun h => h0 (by rw [h]; simp))
    have hr := run_copy_row (P := x.P) w dT sT ty e b o dl dc ⟨b2, off, none⟩ sl sc ⟨l⟩ T (ys.take dl) hS.out hs1 hb hcl (fun j v hj => by
      have hlt : j < (ys.take dl).length := (List.getElem?_eq_some_iff.1 hj).1
      rw [addr_add]
      refine hsr w hw j v ?_
      rw [List.getElem?_take_of_lt (by simp at hlt; omega)] at hj
      exact hj) (by rw [hcl]; exact hfit) (fun v hv => List.all_eq_true.1 h1 v (List.mem_of_mem_take hv))
    rw [hcl] at hr
    rw [hexec _ hr]
    have hset : w.setRow b ((⟨l⟩ : Array Value).toList.take o ++ ys.take dl ++ (⟨l⟩ : Array Value).toList.drop (o + min sl dl)).toArray = putB w b (.cells ⟨stc l o (ys.take dl)⟩ T (0, 0)) := by
      rw [setRow_eq hb]
      unfold stc
      rw [hcl]
    rw [hset]
    exact k _ _ (ha.put (Nat.le_of_ble_eq_true hd) _) hw2
theorem tl_insert {m i p : Operand} {t kt e b : Nat} {kk : IntKind} {es : List MapEntry} {ck : Nat} {k : Int} {v : Value} {f : Obj → SH} (hm : ev E m = some (.map (some b))) (hi : ev E i = some (.int kk k)) (hp : ev E p = some v)
    [hM : TyMap x.P t kt e] [hK : TyInt x.P kt kk] [hU : Upd b L (.map ⟨es⟩ ck) f] (hes : IntKeys kk es)
    (kk' : ∀ es' ck', IntKeys kk es' → (∀ j, mget es' j = if j = k then some v else mget es j) → TL x ops rest Q E ρ (f (.map ⟨es'⟩ ck'))) :
    TL x ops (⟨none, .insert t m i p, ty, pos, af, none⟩ :: rest) Q E ρ L := fun a w ha hw => by
  refine wpListIn_intro rfl rfl ?_
  obtain ⟨es', ck', hrun, h1, h2⟩ := run_mapUpdate_int hM hK (hw.upd hU (.map ⟨es⟩ ck)).2 hes k v
  have hs := (hw.upd hU (.map ⟨es'⟩ ck')).1
  have : (execOp a.eval ⟨none, .insert t m i p, ty, pos, af, none⟩).run x.P w = .ok .skip (putB w b (.map ⟨es'⟩ ck')) := by
    simp only [execOp, ha.eval hm, ha.eval hi, ha.eval hp, Sem.run_bind, hrun, Result.andThen_ok, Sem.run_pure]
  rw [this]
  exact kk' es' ck' h1 h2 _ _ (ha.put_none undef) hs
end

/-! ## equality of plain structs -/
class EqC (P : Program) (m : Nat) (t : TypeId) (a b : Value) (r : outParam Bool) : Prop where
  out : ∀ d w, m ≤ d → (Op.equalIn d t a b).run P w = .ok r w
instance EqC.int {P : Program} {m t : Nat} {k : IntKind} {a b : Int} [h : TyInt P t k] : EqC P (m + 1) t (.int k a) (.int k b) (a == b) := ⟨fun d w hd => by
  obtain ⟨d, rfl⟩ : ∃ d', d = d' + 1 := ⟨d - 1, by omega⟩
  exact run_equalIn_int w d t k k a b h.out⟩
instance EqC.bool {P : Program} {m t : Nat} {a b : Bool} [h : TyBool P t] : EqC P (m + 1) t (.bool a) (.bool b) (a == b) := ⟨fun d w hd => by
  obtain ⟨d, rfl⟩ : ∃ d', d = d' + 1 := ⟨d - 1, by omega⟩
  exact run_equalIn_bool' w d t a b h.out⟩
instance EqC.str {P : Program} {m t : Nat} {a b : List UInt8} [h : TyStr P t] : EqC P (m + 1) t (strV a) (strV b) (decide (a = b)) := ⟨fun d w hd => by
  obtain ⟨d, rfl⟩ : ∃ d', d = d' + 1 := ⟨d - 1, by omega⟩
  rw [← str_beq]
  exact run_equalIn_string w d t _ _ h.out⟩
class GetL (l : List Value) (off : Nat) (v : outParam Value) : Prop where
  out : l[off]? = some v
instance GetL.zero {a : Value} {r : List Value} : GetL (a :: r) 0 a := ⟨rfl⟩
instance GetL.succ {a v : Value} {r : List Value} {n : Nat} [h : GetL r n v] : GetL (a :: r) (n + 1) v := ⟨by simpa using h.out⟩
class SubL (l : List Value) (off n : Nat) (m : outParam (List Value)) : Prop where
  out : (l.drop off).take n = m
  len : m.length = n
instance SubL.nil {l : List Value} : SubL l 0 0 [] := ⟨by simp, rfl⟩
instance SubL.take {a : Value} {r m : List Value} {n : Nat} [h : SubL r 0 n m] : SubL (a :: r) 0 (n + 1) (a :: m) := ⟨by have := h.out; simp at this ⊢; exact this, by simp [h.len]⟩
instance SubL.drop {a : Value} {r m : List Value} {o n : Nat} [h : SubL r o n m] : SubL (a :: r) (o + 1) n m := ⟨by simpa using h.out, h.len⟩
class EqF (P : Program) (m : Nat) (fs : List (Nat × TypeId)) (xs ys : List Value) (r : outParam Bool) : Prop where
  out : ∀ d w (gs : List Field), m ≤ d → gs.map (fun f => (f.offset, f.type)) = fs → (∀ f ∈ gs, f.name ≠ "_") → (Op.eqFields d ⟨xs⟩ ⟨ys⟩ gs).run P w = .ok r w
instance EqF.nil {P : Program} {m : Nat} {xs ys : List Value} : EqF P m [] xs ys true := ⟨fun d w gs _ hg _ => by
  have : gs = [] := by simpa using hg
  subst this
  simp [Op.eqFields]⟩
theorem EqF.step {P : Program} {m off : Nat} {ft : TypeId} {fs : List (Nat × TypeId)} {xs ys : List Value} {a b : Value} {r1 r2 : Bool}
    (ha : ∀ w, (part ft ⟨xs⟩ off).run P w = .ok a w) (hb : ∀ w, (part ft ⟨ys⟩ off).run P w = .ok b w) (h1 : EqC P m ft a b r1) (h2 : EqF P m fs xs ys r2) : EqF P m ((off, ft) :: fs) xs ys (r1 && r2) := ⟨fun d w gs hd hg hn => by
  cases gs with
  | nil => simp at hg
  | cons g gs =>
    simp only [List.map_cons, List.cons.injEq, Prod.mk.injEq] at hg
    obtain ⟨⟨rfl, rfl⟩, hg⟩ := hg
    have hn0 := hn g (by simp)
    simp only [Op.eqFields, hn0, ne_eq, not_false_eq_true, if_true, Sem.run_bind, ha, hb, Result.andThen_ok, h1.out d w hd]
    cases r1
    · simp
    · simpa using h2.out d w gs hd hg (fun f hf => hn f (by simp [hf]))⟩
instance EqF.cons_s {P : Program} {m off : Nat} {ft : TypeId} {fs : List (Nat × TypeId)} {xs ys : List Value} {a b : Value} {r1 r2 : Bool} [hT : TyS P ft] [ha : GetL xs off a] [hb : GetL ys off b] [h1 : EqC P m ft a b r1] [h2 : EqF P m fs xs ys r2] :
    EqF P m ((off, ft) :: fs) xs ys (r1 && r2) := by
  obtain ⟨d, i, g1, g2, g3, g4⟩ := hT.out
  have hag : ∀ w, (isAgg ft).run P w = .ok false w := fun w => by
    simp only [isAgg, underlying, Sem.run_bind, run_program, Result.andThen_ok, g1, Sem.run_pure]
    cases d <;> simp_all
  have ea := ha.out
  have eb := hb.out
  exact EqF.step (fun w => by simp [part, hag, ea]) (fun w => by simp [part, hag, eb]) h1 h2
instance EqF.cons_a {P : Program} {m off n : Nat} {ft : TypeId} {fs : List (Nat × TypeId)} {xs ys as bs : List Value} {r1 r2 : Bool} [hT : TyA P ft n] [ha : SubL xs off n as] [hb : SubL ys off n bs] [h1 : EqC P m ft (.agg ⟨as⟩) (.agg ⟨bs⟩) r1] [h2 : EqF P m fs xs ys r2] :
    EqF P m ((off, ft) :: fs) xs ys (r1 && r2) := by
  obtain ⟨d, i, g1, g2, g3, g4⟩ := hT.out
  have hag : ∀ w, (isAgg ft).run P w = .ok true w := fun w => by
    simp only [isAgg, underlying, Sem.run_bind, run_program, Result.andThen_ok, g1, Sem.run_pure]
    cases d <;> simp_all
  have ea := ha.out
  have eb := hb.out
  refine EqF.step (fun w => ?_) (fun w => ?_) h1 h2
  · simp [part, hag, sizeOf, typeInfo, g3, g4, ea]
  · simp [part, hag, sizeOf, typeInfo, g3, g4, eb]
class TyFlds (P : Program) (t : TypeId) (fs : outParam (List (Nat × TypeId))) : Prop where
  out : P.underlying t = some (.struct (P.fieldsOf t)) ∧ P.stoodInHeld t = false ∧ (P.fieldsOf t).toList.map (fun f => (f.offset, f.type)) = fs ∧ ∀ f ∈ (P.fieldsOf t).toList, f.name ≠ "_"
def fldsB (P : Program) (t : TypeId) : Option (List (Nat × TypeId)) :=
  match P.underlying t with
  | some (.struct fs) => if !P.stoodInHeld t && fs.toList.all (fun f => f.name != "_") then some (fs.toList.map (fun f => (f.offset, f.type))) else none
  | _ => none
theorem mkTyFlds {P : Program} {t : TypeId} {fs : List (Nat × TypeId)} (h : fldsB P t = some fs) : TyFlds P t fs := by
  unfold fldsB at h
  split at h
  · rename_i gs hg
    split at h
    · rename_i hc
      simp only [Bool.and_eq_true, Bool.not_eq_true', List.all_eq_true, bne_iff_ne, ne_eq] at hc
      simp only [Option.some.injEq] at h
      have hf : P.fieldsOf t = gs := by simp [Program.fieldsOf, hg]
      exact ⟨by rw [hf]; exact hg, hc.1, by rw [hf]; exact h, by rw [hf]; exact hc.2⟩
    · cases h
  · cases h
instance EqC.struct {P : Program} {m t : Nat} {fs : List (Nat × TypeId)} {xs ys : List Value} {r : Bool} [hF : TyFlds P t fs] [h : EqF P m fs xs ys r] : EqC P (m + 1) t (.agg ⟨xs⟩) (.agg ⟨ys⟩) r := ⟨fun d w hd => by
  obtain ⟨d, rfl⟩ : ∃ d', d = d' + 1 := ⟨d - 1, by omega⟩
  obtain ⟨h1, h2, h3, h4⟩ := hF.out
  rw [run_equalIn_struct w d t _ _ h1 h2]
  exact h.out d w _ (by omega) h3 h4⟩
section
variable {x : Cx} {E : Env} {ρ : Hp} {L : SH} {ty : TypeId}
theorem y_eqc {o : BinOp} {p q : Operand} {t t' : TypeId} {u v : List Value} {b c : Bool} (h1 : ev E p = some (.agg ⟨u⟩)) (h2 : ev E q = some (.agg ⟨v⟩)) [hG : NoGuard x.P t] [hC : EqC x.P 8 t (.agg ⟨u⟩) (.agg ⟨v⟩) c]
    (hb : eqB o c = some b) : Yl x (.binOp o t p q t') ty E ρ L (.bool b) := fun a w _ _ _ _ ha _ => by
  have hd : Op.maxDepth = 10000 := rfl
  have hr : (Op.equal t (.agg ⟨u⟩) (.agg ⟨v⟩)).run x.P w = .ok c w := by rw [Op.equal, hd]; exact hC.out 10000 w (by decide)
  have hg := run_eqGuard_agg (P := x.P) w o t p q ⟨u⟩ ⟨v⟩ hG.out
  have hbin : (binOp o t (.agg ⟨u⟩) (.agg ⟨v⟩)).run x.P w = .ok (.bool b) w := by
    cases o <;> simp only [eqB, Option.some.injEq, reduceCtorEq] at hb <;> subst hb <;> simp only [binOp, Sem.run_bind, hr, Result.andThen_ok, Sem.run_pure]
  simp only [execOp, ha.eval h1, ha.eval h2, Sem.run_bind, hg, Result.andThen_ok, hbin, Sem.run_pure]
end
end Go.Proofs.E

namespace Go.Proofs.E
open Go
set_option linter.unusedVariables false
set_option linter.unusedSimpArgs false
set_option linter.unusedSectionVars false
/-! ## slices whose elements never turn -/
/-- a slice of plain values -/
structure SIn (ρ : Hp) {α : Type} (g : α → Value) (a : Option Addr) (n : Nat) (l : List α) : Prop where
  len : l.length = n
  out : n = 0 ∨ ∃ b off C T fr, a = some ⟨b, off, none⟩ ∧ ρ b = some (.cells ⟨C⟩ T fr) ∧ (C.drop off).take n = l.map g
/-- a slice of parts -/
structure AIn (ρ : Hp) {α : Type} (sz : Nat) (g : α → List Value) (a : Option Addr) (n : Nat) (l : List α) : Prop where
  len : l.length = n
  out : n = 0 ∨ ∃ b off C T fr, a = some ⟨b, off, none⟩ ∧ ρ b = some (.cells ⟨C⟩ T fr) ∧ off + n * sz ≤ C.length ∧ (C.drop off).take (n * sz) = (l.map g).flatten
  sz : ∀ x ∈ l, (g x).length = sz
section
variable {α : Type} {ρ ρ' : Hp} {a : Option Addr} {n : Nat} {l : List α}
theorem SIn.mono {g : α → Value} (h : SIn ρ g a n l) (hle : ρ.le ρ') : SIn ρ' g a n l := ⟨h.len, h.out.imp id fun ⟨b, off, C, T, fr, h1, h2, h3⟩ => ⟨b, off, C, T, fr, h1, hle _ _ h2, h3⟩⟩
theorem AIn.mono {sz} {g : α → List Value} (h : AIn ρ sz g a n l) (hle : ρ.le ρ') : AIn ρ' sz g a n l := ⟨h.len, h.out.imp id fun ⟨b, off, C, T, fr, h1, h2, h3⟩ => ⟨b, off, C, T, fr, h1, hle _ _ h2, h3⟩, h.sz⟩
theorem SIn.nil {g : α → Value} : SIn ρ g a 0 [] := ⟨rfl, .inl rfl⟩
theorem AIn.nil {sz} {g : α → List Value} : AIn ρ sz g a 0 [] := ⟨rfl, .inl rfl, by simp⟩
theorem SIn.srcV {g : α → Value} {x : Cx} {L : SH} (h : SIn ρ g a n l) : SrcV x ρ L a (l.map g) := by
  rcases h.out with h0 | ⟨b, off, C, T, fr, rfl, h2, h3⟩
  · left
    have := h.len
    rw [h0] at this
    simp [List.eq_nil_of_length_eq_zero this]
  · exact .inr ⟨b, off, rfl, Src.imm (n := n) h2 h3⟩
theorem AIn.srcV {sz} {g : α → List Value} {x : Cx} {L : SH} (h : AIn ρ sz g a n l) : SrcV x ρ L a ((l.map g).flatten) := by
  rcases h.out with h0 | ⟨b, off, C, T, fr, rfl, h2, h4, h3⟩
  · left
    have := h.len
    rw [h0] at this
    simp [List.eq_nil_of_length_eq_zero this]
  · exact .inr ⟨b, off, rfl, Src.imm (n := n * sz) h2 h3⟩
theorem SIn.get {g : α → Value} (h : SIn ρ g a n l) {i : Nat} (hi : i < l.length) : ∃ b off C T fr, a = some ⟨b, off, none⟩ ∧ ρ b = some (.cells ⟨C⟩ T fr) ∧ C[off + i * 1]? = some (g l[i]) := by
  have hn := h.len
  obtain ⟨b, off, C, T, fr, h1, h2, h3⟩ := h.out.resolve_left (by omega)
  refine ⟨b, off, C, T, fr, h1, h2, ?_⟩
  have := congrArg (fun l : List Value => l[i]?) h3
  simp only [List.getElem?_map] at this
  rw [List.getElem?_take_of_lt (by omega), List.getElem?_drop, List.getElem?_eq_getElem hi] at this
  rw [Nat.mul_one]; simpa using this
theorem flat_at (g : α → List Value) (sz : Nat) : ∀ (l : List α) (i : Nat) (h : i < l.length), (∀ x ∈ l, (g x).length = sz) → (((l.map g).flatten).drop (i * sz)).take sz = g l[i]
  | [], i, h, _ => by simp at h
  | p :: r, 0, h, hl => by
    have h1 := hl p (by simp)
    simp only [List.map_cons, List.flatten_cons, Nat.zero_mul, List.drop_zero, List.getElem_cons_zero]
    rw [List.take_append_of_le_length (by omega), List.take_of_length_le (by omega)]
  | p :: r, i + 1, h, hl => by
    have h1 := hl p (by simp)
    have ih := flat_at g sz r i (by simpa using h) (fun q hq => hl q (by simp [hq]))
    simp only [List.map_cons, List.flatten_cons, List.getElem_cons_succ]
    have e : (i + 1) * sz = (g p).length + i * sz := by rw [h1, Nat.add_mul]; omega
    rw [e, ← List.drop_drop, List.drop_left]
    exact ih
theorem flat_len (g : α → List Value) (sz : Nat) : ∀ (l : List α), (∀ x ∈ l, (g x).length = sz) → ((l.map g).flatten).length = l.length * sz
  | [], _ => by simp
  | p :: r, hl => by
    have h1 := hl p (by simp)
    have ih := flat_len g sz r (fun q hq => hl q (by simp [hq]))
    simp only [List.map_cons, List.flatten_cons, List.length_append, List.length_cons, ih, h1, Nat.add_mul]; omega
theorem AIn.get {sz} {g : α → List Value} (h : AIn ρ sz g a n l) {i : Nat} (hi : i < l.length) : ∃ b off C T fr, a = some ⟨b, off, none⟩ ∧ ρ b = some (.cells ⟨C⟩ T fr) ∧ off + i * sz + sz ≤ C.length ∧ (C.drop (off + i * sz)).take sz = g l[i] := by
  have hn := h.len
  obtain ⟨b, off, C, T, fr, h1, h2, h4, h3⟩ := h.out.resolve_left (by omega)
  have hle : (i + 1) * sz ≤ n * sz := Nat.mul_le_mul_right _ (by omega)
  rw [Nat.add_mul] at hle
  refine ⟨b, off, C, T, fr, h1, h2, by omega, ?_⟩
  have := flat_at g sz l i hi h.sz
  rw [← h3] at this
  rw [← this, List.drop_take, List.take_take, List.drop_drop]
  congr 1
  omega
/-- a part of a slice -/
theorem SIn.sub {g : α → Value} (h : SIn ρ g a n l) {lo' hi' : Nat} (h1 : lo' ≤ hi') (h2 : hi' ≤ n) {cap : Nat} (hc : n ≤ cap) : SIn ρ g (if cap = lo' then a else a.map (·.add (lo' * 1))) (hi' - lo') ((l.drop lo').take (hi' - lo')) := by
  have hn := h.len
  refine ⟨by simp; omega, ?_⟩
  by_cases h0 : hi' - lo' = 0
  · exact .inl h0
  · right
    obtain ⟨b, off, C, T, fr, rfl, e2, e3⟩ := h.out.resolve_left (by omega)
    rw [if_neg (by omega)]
    refine ⟨b, off + lo', C, T, fr, by simp [addr_add], e2, ?_⟩
    rw [List.map_take, List.map_drop, ← e3, List.drop_take, List.take_take, List.drop_drop, Nat.min_eq_left (by omega)]
theorem SIn.take {g : α → Value} (h : SIn ρ g a n l) {hi' : Nat} (h2 : hi' ≤ n) : SIn ρ g a hi' (l.take hi') := by
  have hn := h.len
  refine ⟨by simp; omega, ?_⟩
  by_cases h0 : hi' = 0
  · exact .inl h0
  · right
    obtain ⟨b, off, C, T, fr, rfl, e2, e3⟩ := h.out.resolve_left (by omega)
    refine ⟨b, off, C, T, fr, rfl, e2, ?_⟩
    rw [List.map_take, ← e3, List.take_take, Nat.min_eq_left h2]
theorem AIn.take {sz} {g : α → List Value} (h : AIn ρ sz g a n l) {hi' : Nat} (h2 : hi' ≤ n) : AIn ρ sz g a hi' (l.take hi') := by
  have hn := h.len
  refine ⟨by simp; omega, ?_, fun x hx => h.sz x (List.mem_of_mem_take hx)⟩
  by_cases h0 : hi' = 0
  · exact .inl h0
  · right
    obtain ⟨b, off, C, T, fr, rfl, e2, e4, e3⟩ := h.out.resolve_left (by omega)
    have hle : hi' * sz ≤ n * sz := Nat.mul_le_mul_right _ h2
    refine ⟨b, off, C, T, fr, rfl, e2, by omega, ?_⟩
    have hl1 : ((l.take hi').map g).flatten = ((l.map g).flatten).take (hi' * sz) := by
      have hsplit : (l.map g).flatten = ((l.take hi').map g).flatten ++ ((l.drop hi').map g).flatten := by
        rw [← List.flatten_append, ← List.map_append, List.take_append_drop]
      rw [hsplit, List.take_left' (by rw [flat_len g sz _ (fun x hx => h.sz x (List.mem_of_mem_take hx)), List.length_take, Nat.min_eq_left (by omega)])]
    rw [hl1, ← e3, List.take_take, Nat.min_eq_left hle]
/-- what was made and is never changed from now on -/
theorem OwnS.sIn {g : α → Value} {v : Value} {sp : List Value} {T : TypeId} (h : OwnS v n (l.map g) sp 1) (hf : ∀ p ∈ ownC v (l.map g) sp T, ρ p.1 = some p.2) : ∃ a cap, v = .slice a n cap ∧ n ≤ cap ∧ SIn ρ g a n l := by
  rcases h.out with ⟨rfl, rfl, h2, h3⟩ | ⟨b, c, rfl, h2, h3, h4⟩
  · have : l = [] := by simpa using h2
    subst this
    exact ⟨none, 0, rfl, Nat.le_refl _, SIn.nil⟩
  · refine ⟨some ⟨b, 0, none⟩, c, rfl, h4, by simpa using h2, .inr ⟨b, 0, _, T, (0, 0), rfl, hf (b, _) (List.mem_singleton.2 rfl), ?_⟩⟩
    rw [List.drop_zero, List.take_left' (by simpa using h2)]
theorem OwnS.aIn {sz : Nat} {g : α → List Value} {v : Value} {sp : List Value} {T : TypeId} (h : OwnS v n ((l.map g).flatten) sp sz) (hl : l.length = n) (hg : ∀ x ∈ l, (g x).length = sz) (hf : ∀ p ∈ ownC v ((l.map g).flatten) sp T, ρ p.1 = some p.2) : ∃ a cap, v = .slice a n cap ∧ n ≤ cap ∧ AIn ρ sz g a n l := by
  rcases h.out with ⟨rfl, rfl, h2, h3⟩ | ⟨b, c, rfl, h2, h3, h4⟩
  · have : l = [] := List.eq_nil_of_length_eq_zero hl
    subst this
    exact ⟨none, 0, rfl, Nat.le_refl _, AIn.nil⟩
  · refine ⟨some ⟨b, 0, none⟩, c, rfl, h4, hl, .inr ⟨b, 0, _, T, (0, 0), rfl, hf (b, _) (List.mem_singleton.2 rfl), by simp [List.length_append]; simp at h2; omega, ?_⟩, hg⟩
    rw [List.drop_zero, List.take_left' h2]
end
section
variable {x : Cx} {Q : Exit → Act → World → Prop} {E : Env} {ρ : Hp} {L L1 : SH} {ops : Array Oper} {rest tail : List Oper} {ty : TypeId} {pos : String} {af : Array Edge}
theorem y_conv_i {p : Operand} {s t : TypeId} {k k' : IntKind} {n : Int} (h : ev E p = some (.int k' n)) [hk : TyInt x.P t k] [hs : TyInt x.P s k'] (hb : lo k ≤ n ∧ n ≤ hi k) : Yl x (.convert s t p) ty E ρ L (.int k n) := by
  have := y_conv (x := x) (E := E) (ρ := ρ) (L := L) (ty := ty) (s := s) (t := t) h
  rwa [wrap_id hb] at this
theorem y_lookup0 {m i : Operand} {t kt e b : Nat} {kk : IntKind} {z : Value} {es : List MapEntry} {ck : Nat} {k : Int} (hm : ev E m = some (.map (some b))) (hi : ev E i = some (.int kk k)) [hM : TyMap x.P t kt e] [hK : TyInt x.P kt kk] [hz : TyZero x.P e z]
    [hF : Find b L (.map ⟨es⟩ ck)] (hes : IntKeys kk es) (hg : mget es k = none) : Yl x (.lookup t m i false) ty E ρ L z := by
  have := y_lookup (x := x) (ty := ty) (ρ := ρ) hm hi (hM := hM) (hK := hK) (hz := hz) (hF := hF) hes
  rw [hg] at this; exact this
theorem y_conv_in {p : Operand} {s t e : TypeId} {a : Option Addr} {n c : Nat} {l : List UInt8} [hT : TyStr x.P t] [hS : TySlice x.P s e] [hE : TyInt x.P e .u8] (h : ev E p = some (.slice a n c)) (hs : SIn ρ u8c a n l) : Yl x (.convert s t p) ty E ρ L (strV l) := y_conv_bs h hs.srcV hs.len
theorem y_eqc_l {o : BinOp} {p q : Operand} {t t' : TypeId} {u v : List Value} {b c d : Bool} (h1 : ev E p = some (.agg ⟨u⟩)) (h2 : ev E q = some (.agg ⟨v⟩)) [hG : NoGuard x.P t] [hC : EqC x.P 8 t (.agg ⟨u⟩) (.agg ⟨v⟩) c] (hc : c = d)
    (hb : eqB o d = some b) : Yl x (.binOp o t p q t') ty E ρ L (.bool b) := by subst hc; exact y_eqc h1 h2 hb
theorem SrcV.find {b off n : Nat} {l ys : List Value} {T : TypeId} {fr : Nat × Nat} [hF : Find b L (.cells ⟨l⟩ T fr)] (h : (l.drop off).take n = ys) : SrcV x ρ L (some ⟨b, off, none⟩) ys := .inr ⟨b, off, rfl, Src.find (n := n) h⟩
theorem SrcV.lit {b : Nat} {ys : List Value} {T : TypeId} {fr : Nat × Nat} [hF : Find b L (.cells ⟨ys⟩ T fr)] : SrcV x ρ L (some ⟨b, 0, none⟩) ys := .inr ⟨b, 0, rfl, Src.find (n := ys.length) (by simp)⟩
theorem SrcV.own {v : Value} {a : Option Addr} {n cap : Nat} {xs sp : List Value} {sz : Nat} {T : TypeId} {L' : SH} (h : OwnS (.slice a n cap) n xs sp sz) [hR : Rem (ownC (.slice a n cap) xs sp T) L L'] : SrcV x ρ L a xs := by
  rcases h.out with ⟨e1, rfl, h2, h3⟩ | ⟨b, c, e1, h2, h3, h4⟩
  · exact .inl h2
  · cases e1
    refine .inr ⟨b, 0, rfl, fun w hw j c hj => ?_⟩
    have hw' := hw.perm (L' := ownC (.slice (some ⟨b, 0, none⟩) n cap) xs sp T :: L') (by simpa using hR.out)
    have hb : w.heap[b]? = some (.cells ⟨xs ++ sp⟩ T (0, 0)) := hw'.here (b, .cells ⟨xs ++ sp⟩ T (0, 0)) (by simp [ownC])
    simp only [World.cell?, hb, Option.isSome_none, Bool.false_eq_true, if_false, Nat.zero_add]
    simp only [List.getElem?_toArray]
    rw [List.getElem?_append_left (List.getElem?_eq_some_iff.1 hj).1]; exact hj
theorem y_load_sub {o : Operand} {t b off n : Nat} {l m : List Value} {T : TypeId} {fr : Nat × Nat} (h : ev E o = some (.pointer (some ⟨b, off, none⟩))) [hA : TyA x.P t n] [hF : Find b L (.cells ⟨l⟩ T fr)] [hS : SubL l off n m] : Yl x (.load t o) ty E ρ L (.agg ⟨m⟩) := by
  by_cases h0 : n = 0
  · subst h0
    have hm : m = [] := List.eq_nil_of_length_eq_zero hS.len
    by_cases hl : off ≤ l.length
    · exact y_load_part h (by omega) hS.out
    · intro a w _ _ _ _ ha hw
      obtain ⟨d, i, h1, h2, h3, h4⟩ := hA.out
      have hag : (isAgg t).run x.P w = .ok true w := by
        simp only [isAgg, underlying, Sem.run_bind, run_program, Result.andThen_ok, h1, Sem.run_pure]
        cases d <;> simp_all
      have hl0 := run_loadCells_list (P := x.P) w ⟨b, off, none⟩ [] (by simp)
      simp only [List.length_nil] at hl0
      simp [execOp, ha.eval h, Instr.loadAt, Instr.sureAddr, loadVar, hag, sizeOf, typeInfo, h3, h4, hl0, hm]
  · have := hS.out
    have hl := hS.len
    rw [← this] at hl
    simp at hl
    exact y_load_part h (by omega) this
theorem y_field_sub {o : Operand} {s f d ft n : Nat} {l m : List Value} (h : ev E o = some (.agg ⟨l⟩)) [hF : Fld x.P s f d ft] [hT : TyA x.P ft n] [hS : SubL l d n m] : Yl x (.field s o f) ty E ρ L (.agg ⟨m⟩) := y_field_a h hS.out
class SetS (l : List Value) (off : Nat) (vs : List Value) (l' : outParam (List Value)) : Prop where
  out : stc l off vs = l'
  fit : off + vs.length ≤ l.length
instance SetS.nil {l : List Value} : SetS l 0 [] l := ⟨by simp [stc], by simp⟩
instance SetS.cons {a v : Value} {r vs r' : List Value} [h : SetS r 0 vs r'] : SetS (a :: r) 0 (v :: vs) (v :: r') := ⟨by
  have := h.out
  simp [stc] at this ⊢
  exact this, by have := h.fit; simp at this ⊢; omega⟩
instance SetS.drop {a : Value} {r vs r' : List Value} {n : Nat} [h : SetS r n vs r'] : SetS (a :: r) (n + 1) vs (a :: r') := ⟨by
  have := h.out
  simp only [stc, List.take_succ_cons, List.cons_append, List.cons.injEq, true_and] at this ⊢
  rw [← this, show n + 1 + vs.length = n + vs.length + 1 by omega, List.drop_succ_cons], by have := h.fit; simp; omega⟩
theorem tl_store_sub {t b off n : Nat} {o p : Operand} {l l' vs : List Value} {T : TypeId} {f : Obj → SH} (ho : ev E o = some (.pointer (some ⟨b, off, none⟩))) (hp : ev E p = some (.agg ⟨vs⟩)) [hZ : TySz x.P t n] [hU : Upd b L (.cells ⟨l⟩ T (0, 0)) f] [hS : SetS l off vs l'] (hn : vs.length = n) (h1 : vs.all (·.oneCell') = true)
    (k : TL x ops rest Q E ρ (f (.cells ⟨l'⟩ T (0, 0)))) : TL x ops (⟨none, .store t o p, ty, pos, af, none⟩ :: rest) Q E ρ L := by
  refine tl_store_a ho hp hn h1 (ble_le (by rw [← hn]; exact hS.fit)) ?_
  rw [hS.out]; exact k
end
end Go.Proofs.E

namespace Go.Proofs.E
open Go Go.Lib
set_option linter.unusedVariables false
set_option linter.unusedSimpArgs false
set_option linter.unusedSectionVars false
/-! ## bytes that are appended to: own, or full and never turning -/
def AppB (v : Value) (c : List (Nat × Obj)) (T : TypeId) (l : List UInt8) : Prop :=
  (∃ sp, OwnS v l.length (l.map u8c) sp 1 ∧ c = ownC v (l.map u8c) sp T) ∨ (∃ b fr, v = .slice (some ⟨b, 0, none⟩) l.length l.length ∧ l ≠ [] ∧ c = [(b, .cells ⟨l.map u8c⟩ T fr)])
theorem OwnS.appB {v : Value} {n : Nat} {l : List UInt8} {sp : List Value} {T : TypeId} (h : OwnS v n (l.map u8c) sp 1) (hn : n = l.length) : AppB v (ownC v (l.map u8c) sp T) T l := .inl ⟨sp, by subst hn; exact h, rfl⟩
section
variable {x : Cx} {Q : Exit → Act → World → Prop} {E : Env} {ρ : Hp} {L L1 : SH} {ops : Array Oper} {rest tail : List Oper} {ty : TypeId} {pos : String} {af : Array Edge}
/-- a slice that is full, and only read, is appended to -/
theorem tl_app_full {d t e sz by' n m cx : Nat} {s y : Operand} {z : Value} {xs ys : List Value} {a0 : Addr} {a : Option Addr} [hS : TySlice x.P t e] [hZ : TySz x.P e sz] [hB : TyBytes x.P e by'] [hz : TyZero x.P e z]
    (hs : ev E s = some (.slice (some a0) n n)) (hy : ev E y = some (.slice a m cx)) (hx : SrcV x ρ L (some a0) xs) (hxl : xs.length = n * sz) (hx0 : xs ≠ []) (hsrc : SrcV x ρ L a ys) (hlen : ys.length = m * sz) (hy0 : ys ≠ [])
    (hsz : 0 < sz) (hzs : z.cells.toList.length = sz) (hb : (n + m) * by' ≤ 140737488355328) (hm : n + m ≤ 9223372036854775807) (hd : Nat.blt d x.N = true)
    (k : ∀ v' sp', OwnS v' (n + m) (xs ++ ys) sp' sz → TL x ops rest Q ((d, v') :: E) ρ (ownC v' (xs ++ ys) sp' e :: L)) :
    TL x ops (⟨some d, .call { callee := .builtin .append, args := #[s, y], argTypes := #[t, t] }, ty, pos, af, none⟩ :: rest) Q E ρ L := fun a' w ha hw => by
  refine wpListIn_intro rfl rfl ?_
  obtain ⟨i, g1, g2⟩ := hZ.out
  obtain ⟨i2, g3, g4⟩ := hB.out
  obtain ⟨i3, g5, g6⟩ := hz.out
  rw [g1] at g3 g5
  cases g3; cases g5
  subst g2; subst g4
  obtain ⟨bx, ox, rfl, hsr⟩ := hsrc.resolve_left hy0
  obtain ⟨b0, o0, e0, hsr0⟩ := hx.resolve_left hx0
  simp only [Option.some.injEq] at e0
  subst e0
  have hm0 : 0 < m := by
    rcases Nat.eq_zero_or_pos m with h | h
    · subst h; simp at hlen; exact absurd hlen hy0
    · exact h
  have hzs' : z.cells.size = i.size := by simpa using hzs
  have hcells : ∀ j c, ys[j]? = some c → w.cell? ((⟨bx, ox, none⟩ : Addr).add j) = some c := fun j c hj => by rw [addr_add]; exact hsr w hw j c hj
  have hold : ∀ j c, xs[j]? = some c → w.cell? ((⟨b0, o0, none⟩ : Addr).add j) = some c := fun j c hj => by rw [addr_add]; exact hsr0 w hw j c hj
  have hexec : ∀ (v' : Value) (w' : World), (Builtin.append_ #[t, t] ty #[.slice (some ⟨b0, o0, none⟩) n n, .slice (some ⟨bx, ox, none⟩) m cx]).run x.P w = .ok v' w' →
      (execOp a'.eval ⟨some d, .call { callee := .builtin .append, args := #[s, y], argTypes := #[t, t] }, ty, pos, af, none⟩).run x.P w = .ok (.value v') w' := fun v' w' hr => by
    simp only [execOp, resolve, Sem.run_bind, Sem.run_pure, Result.andThen_ok, invoke, builtin]
    have hargs : Array.map a'.eval #[s, y] = #[.slice (some ⟨b0, o0, none⟩) n n, .slice (some ⟨bx, ox, none⟩) m cx] := by simp [ha.eval hs, ha.eval hy]
    rw [hargs, hr]
    rfl
  have hg : n + m ≤ grownCap w (n + m) n e := by simp only [grownCap, Question.cut]; omega
  have hzl : ∀ c, (Builtin.zeroCells z.cells c).toList.length = c * i.size := fun c => by
    have := size_zeroCells z.cells c
    rw [hzs'] at this; simpa using this
  have hrun := run_append_grow (P := x.P) (w := w) t ty e i z hS.out g1 g6 ⟨b0, o0, none⟩ n n xs hxl hold ⟨bx, ox, none⟩ m cx ys hlen hcells (by omega) (by omega) (growslice_fits (by omega) hb)
  rw [hexec _ _ hrun]
  have hs2 := (hw.drew).new (.cells (xs.toArray ++ ys.toArray ++ Builtin.zeroCells z.cells (grownCap w (n + m) n e - (n + m))) e (0, 0))
  refine k (.slice (some ⟨w.heap.size, 0, none⟩) (n + m) (grownCap w (n + m) n e)) (Builtin.zeroCells z.cells (grownCap w (n + m) n e - (n + m))).toList ?_ _ _ (ha.put (Nat.le_of_ble_eq_true hd) _) ?_
  · refine ⟨.inr ⟨w.heap.size, grownCap w (n + m) n e, rfl, by simp [Nat.add_mul]; omega, ?_, by omega⟩⟩
    rw [hzl]; simp only [List.length_append, hlen, hxl, ← Nat.add_mul]
    rw [show n + m + (grownCap w (n + m) n e - (n + m)) = grownCap w (n + m) n e by omega]
  · have : ownC (.slice (some ⟨w.heap.size, 0, none⟩) (n + m) (grownCap w (n + m) n e)) (xs ++ ys) (Builtin.zeroCells z.cells (grownCap w (n + m) n e - (n + m))).toList e = [(w.heap.size, .cells (xs.toArray ++ ys.toArray ++ Builtin.zeroCells z.cells (grownCap w (n + m) n e - (n + m))) e (0, 0))] := by
      simp only [ownC]
      congr 3
      apply Array.ext'; simp
    rw [this]
    exact hs2
/-- bytes are appended to whatever may be appended to -/
theorem tl_appB {d t e m cx : Nat} {s y : Operand} {v : Value} {c : List (Nat × Obj)} {l ys : List UInt8} {a : Option Addr} [hS : TySlice x.P t e] [hZ : TySz x.P e 1] [hB : TyBytes x.P e 1] [hz : TyZero x.P e (.int .u8 0)]
    (hs : ev E s = some v) (hy : ev E y = some (.slice a m cx)) (h : AppB v c e l) [hR : Rem c L L1] (hsrc : SrcV x ρ L1 a (ys.map u8c)) (hlen : ys.length = m) (hy0 : ys ≠ [])
    (hb : l.length + m ≤ 140737488355328) (hd : Nat.blt d x.N = true)
    (k : ∀ v' sp', OwnS v' (l ++ ys).length ((l ++ ys).map u8c) sp' 1 → TL x ops rest Q ((d, v') :: E) ρ (ownC v' ((l ++ ys).map u8c) sp' e :: L1)) :
    TL x ops (⟨some d, .call { callee := .builtin .append, args := #[s, y], argTypes := #[t, t] }, ty, pos, af, none⟩ :: rest) Q E ρ L := by
  have hk : ∀ v' sp', OwnS v' (l.length + m) (l.map u8c ++ ys.map u8c) sp' 1 → TL x ops rest Q ((d, v') :: E) ρ (ownC v' (l.map u8c ++ ys.map u8c) sp' e :: L1) := fun v' sp' ho => by
    rw [← List.map_append] at ho ⊢
    exact k v' sp' (by rw [List.length_append, hlen]; exact ho)
  rcases h with ⟨sp, hown, rfl⟩ | ⟨b0, fr, rfl, hne, rfl⟩
  · exact tl_app hs hy hown hsrc (by simpa using hlen) (u8c_one ys) (by decide) rfl (by omega) (by omega) hd hk
  · refine TL.perm (L' := [(b0, .cells ⟨l.map u8c⟩ e fr)] :: L1) ?_ hR.out
    have hsrc2 : SrcV x ρ ([(b0, Obj.cells ⟨l.map u8c⟩ e fr)] :: L1) a (ys.map u8c) := by
      rcases hsrc with h | ⟨b, off, e1, h⟩
      · exact .inl h
      · exact .inr ⟨b, off, e1, fun w hw => h w (hw.sub (by simp))⟩
    exact tl_app_full (sz := 1) (z := .int .u8 0) hs hy SrcV.lit (by simp) (by simpa using hne) hsrc2 (by simpa using hlen) (by simpa using hy0) (by decide) rfl (by omega) (by omega) hd (fun v' sp' ho => by
      refine fun a' w ha hw => hk v' sp' ho a' w ha (hw.sub ?_)
      simp only [List.flatten_cons]
      exact List.Sublist.append (List.Sublist.refl _) (List.sublist_append_right _ _))
/-! ## parts of arrays -/
theorem y_slice_arr {o : Operand} {og oh : Option Operand} {t len e sz b off : Nat} {lo' hi' : Nat} (ho : ev E o = some (.pointer (some ⟨b, off, none⟩))) [hS : TyArr x.P t len e] [hZ : TySz x.P e sz]
    (hg : match og with | some g => ∃ k, ev E g = some (.int k (lo' : Int)) | none => lo' = 0) (hh : match oh with | some h => ∃ k, ev E h = some (.int k (hi' : Int)) | none => hi' = len) (h1 : lo' ≤ hi') (h2 : hi' ≤ len) :
    Yl x (.slice t o og oh none) ty E ρ L (.slice (some (if len = lo' then ⟨b, off, none⟩ else ⟨b, off + lo' * sz, none⟩)) (hi' - lo') (len - lo')) := fun a' w _ _ _ _ ha hw => by
  obtain ⟨inf, g1, g2⟩ := hZ.out
  have hsz : (sizeOf e).run x.P w = .ok sz w := by simp [sizeOf, typeInfo, g1, g2]
  have hu : (underlying t).run x.P w = .ok (.array len e) w := by simp [underlying, hS.out]
  have hb1 : (Instr.sliceBounds false len len (og.map a'.eval) (oh.map a'.eval) none).run x.P w = .ok (lo', hi', len) w := by
    cases og with
    | none =>
      cases oh with
      | none => simp only at hg hh; subst hg; subst hh; simp [Instr.sliceBounds]
      | some h => simp only at hg hh; subst hg; obtain ⟨k, hk⟩ := hh; simp [Instr.sliceBounds, ha.eval hk, run_sliceBound, h2, Instr.sliceBound, asIntOf]
    | some g =>
      cases oh with
      | none => simp only at hg hh; subst hh; obtain ⟨k, hk⟩ := hg; simp [Instr.sliceBounds, ha.eval hk, Instr.sliceBound, asIntOf, h1]
      | some h => simp only at hg hh; obtain ⟨k, hk⟩ := hg; obtain ⟨k', hk'⟩ := hh; simp [Instr.sliceBounds, ha.eval hk, ha.eval hk', Instr.sliceBound, asIntOf, h1, h2]
  simp only [execOp, ha.eval ho, Instr.sliceAt, Sem.run_bind, hu, Result.andThen_ok, Instr.sureAddr, Sem.run_pure, Option.map_none, hb1, hsz, addr_add]
theorem y_slice_arr_all {o : Operand} {t len e sz b off : Nat} (ho : ev E o = some (.pointer (some ⟨b, off, none⟩))) [hS : TyArr x.P t len e] [hZ : TySz x.P e sz] :
    Yl x (.slice t o none none none) ty E ρ L (.slice (some ⟨b, off, none⟩) len len) := by
  have := y_slice_arr (x := x) (ρ := ρ) (L := L) (ty := ty) (og := none) (oh := none) (lo' := 0) (hi' := len) ho (hS := hS) (hZ := hZ) rfl rfl (Nat.zero_le _) (Nat.le_refl _)
  simpa using this
theorem y_slice_arr_l {o g : Operand} {t len e sz b off : Nat} {k : IntKind} {lo' : Int} (ho : ev E o = some (.pointer (some ⟨b, off, none⟩))) (hg : ev E g = some (.int k lo')) [hS : TyArr x.P t len e] [hZ : TySz x.P e sz] (h0 : 0 ≤ lo') (h1 : lo' < len) :
    Yl x (.slice t o (some g) none none) ty E ρ L (.slice (some ⟨b, off + lo'.toNat * sz, none⟩) (len - lo'.toNat) (len - lo'.toNat)) := by
  have := y_slice_arr (x := x) (ρ := ρ) (L := L) (ty := ty) (og := some g) (oh := none) (lo' := lo'.toNat) (hi' := len) ho (hS := hS) (hZ := hZ) ⟨k, by rw [Int.toNat_of_nonneg h0]; exact hg⟩ rfl (by omega) (Nat.le_refl _)
  rwa [if_neg (by omega)] at this
theorem y_slice_arr_h {o h : Operand} {t len e sz b off : Nat} {k : IntKind} {hi' : Int} (ho : ev E o = some (.pointer (some ⟨b, off, none⟩))) (hh : ev E h = some (.int k hi')) [hS : TyArr x.P t len e] [hZ : TySz x.P e sz] (h0 : 0 ≤ hi') (h1 : hi' ≤ len) :
    Yl x (.slice t o none (some h) none) ty E ρ L (.slice (some ⟨b, off, none⟩) hi'.toNat len) := by
  have := y_slice_arr (x := x) (ρ := ρ) (L := L) (ty := ty) (og := none) (oh := some h) (lo' := 0) (hi' := hi'.toNat) ho (hS := hS) (hZ := hZ) rfl ⟨k, by rw [Int.toNat_of_nonneg h0]; exact hh⟩ (by omega) (by omega)
  simpa using this
theorem y_slice_arr_lh {o g h : Operand} {t len e sz b off : Nat} {k k' : IntKind} {lo' hi' : Int} (ho : ev E o = some (.pointer (some ⟨b, off, none⟩))) (hg : ev E g = some (.int k lo')) (hh : ev E h = some (.int k' hi')) [hS : TyArr x.P t len e] [hZ : TySz x.P e sz] (h0 : 0 ≤ lo') (h1 : lo' ≤ hi') (h2 : hi' ≤ len) (h3 : lo' < len) :
    Yl x (.slice t o (some g) (some h) none) ty E ρ L (.slice (some ⟨b, off + lo'.toNat * sz, none⟩) (hi'.toNat - lo'.toNat) (len - lo'.toNat)) := by
  have := y_slice_arr (x := x) (ρ := ρ) (L := L) (ty := ty) (og := some g) (oh := some h) (lo' := lo'.toNat) (hi' := hi'.toNat) ho (hS := hS) (hZ := hZ) ⟨k, by rw [Int.toNat_of_nonneg h0]; exact hg⟩ ⟨k', by rw [Int.toNat_of_nonneg (by omega)]; exact hh⟩ (by omega) (by omega)
  rwa [if_neg (by omega)] at this
/-! ## parts with a capacity of their own -/
theorem y_slice_m {o g h m : Operand} {t e sz len cap : Nat} {a : Option Addr} {k k' k2 : IntKind} {lo' hi' mx : Int} (ho : ev E o = some (.slice a len cap)) (hg : ev E g = some (.int k' lo')) (hh : ev E h = some (.int k hi')) (hm : ev E m = some (.int k2 mx)) [hS : TySlice x.P t e] [hZ : TySz x.P e sz]
    (h0 : 0 ≤ lo') (h1 : lo' ≤ hi') (h2 : hi' ≤ mx) (h3 : mx ≤ cap) :
    Yl x (.slice t o (some g) (some h) (some m)) ty E ρ L (.slice (if mx.toNat = lo'.toNat then a else a.map (·.add (lo'.toNat * sz))) (hi'.toNat - lo'.toNat) (mx.toNat - lo'.toNat)) := fun a' w _ _ _ _ ha hw => by
  obtain ⟨inf, g1, g2⟩ := hZ.out
  have hel : x.P.elem t = e := by simp [Program.elem, hS.out]
  have ht : x.P.underlying t = some (.slice (x.P.elem t)) := by rw [hel]; exact hS.out
  have hsz : (sizeOf e).run x.P w = .ok sz w := by simp [sizeOf, typeInfo, g1, g2]
  have e1 : (mx.toNat : Int) = mx := Int.toNat_of_nonneg (by omega)
  have e2 : (hi'.toNat : Int) = hi' := Int.toNat_of_nonneg (by omega)
  have hu : (underlying t).run x.P w = .ok (.slice e) w := by simp [underlying, hS.out]
  have hb1 : (Instr.sliceBounds true len cap (some (.int k' lo')) (some (.int k hi')) (some (.int k2 mx))).run x.P w = .ok (lo'.toNat, hi'.toNat, mx.toNat) w := by
    simp [Instr.sliceBounds, Instr.sliceBound, asIntOf, h0, h1, h2, h3, e1, e2, show (0 : Int) ≤ hi' by omega, show (0 : Int) ≤ mx by omega]
  have key : (Instr.slice t (.slice a len cap) (some (.int k' lo')) (some (.int k hi')) (some (.int k2 mx))).run x.P w = .ok (.slice (if mx.toNat = lo'.toNat then a else a.map (·.add (lo'.toNat * sz))) (hi'.toNat - lo'.toNat) (mx.toNat - lo'.toNat)) w := by
    simp only [Instr.slice, Sem.run_bind, hu, Result.andThen_ok, hb1, hsz, Sem.run_pure]
  simp only [execOp, ha.eval ho, ha.eval hh, ha.eval hg, ha.eval hm, Option.map_some, Sem.run_bind, run_sliceAt_slice _ _ _ _ _ _ ht, key, Result.andThen_ok, Sem.run_pure]
theorem y_slice_hm {o h m : Operand} {t e sz len cap : Nat} {a : Option Addr} {k k2 : IntKind} {hi' mx : Int} (ho : ev E o = some (.slice a len cap)) (hh : ev E h = some (.int k hi')) (hm : ev E m = some (.int k2 mx)) [hS : TySlice x.P t e] [hZ : TySz x.P e sz]
    (h0 : 0 ≤ hi') (h2 : hi' ≤ mx) (h3 : mx ≤ cap) : Yl x (.slice t o none (some h) (some m)) ty E ρ L (.slice a hi'.toNat mx.toNat) := fun a' w _ _ _ _ ha hw => by
  obtain ⟨inf, g1, g2⟩ := hZ.out
  have hel : x.P.elem t = e := by simp [Program.elem, hS.out]
  have ht : x.P.underlying t = some (.slice (x.P.elem t)) := by rw [hel]; exact hS.out
  have hsz : (sizeOf e).run x.P w = .ok sz w := by simp [sizeOf, typeInfo, g1, g2]
  have e1 : (mx.toNat : Int) = mx := Int.toNat_of_nonneg (by omega)
  have hu : (underlying t).run x.P w = .ok (.slice e) w := by simp [underlying, hS.out]
  have hb1 : (Instr.sliceBounds true len cap none (some (.int k hi')) (some (.int k2 mx))).run x.P w = .ok (0, hi'.toNat, mx.toNat) w := by
    simp [Instr.sliceBounds, Instr.sliceBound, asIntOf, h0, h2, h3, e1, show (0 : Int) ≤ mx by omega]
  have ea : (if mx.toNat = 0 then a else a.map (·.add (0 * sz))) = a := by
    split
    · rfl
    · cases a with
      | none => rfl
      | some a => simp [Addr.add]
  have key : (Instr.slice t (.slice a len cap) none (some (.int k hi')) (some (.int k2 mx))).run x.P w = .ok (.slice a hi'.toNat mx.toNat) w := by
    simp only [Instr.slice, Sem.run_bind, hu, Result.andThen_ok, hb1, hsz, Sem.run_pure, ea, Nat.sub_zero]
  simp only [execOp, ha.eval ho, ha.eval hh, ha.eval hm, Option.map_some, Option.map_none, Sem.run_bind, run_sliceAt_slice _ _ _ _ _ _ ht, key, Result.andThen_ok, Sem.run_pure]
/-! ## bits -/
theorem y_shl8 {p q : Operand} {t t' : TypeId} {k k' : IntKind} {m : Int} (h1 : ev E p = some (.int k m)) (h2 : ev E q = some (.int k' 8)) (h : lo k ≤ m * 256 ∧ m * 256 ≤ hi k) (hk : 8 ≤ k.bits) : Yl x (.binOp .shl t p q t') ty E ρ L (.int k (m * 256)) := by
  have hc : min (Int.toNat 8) k.bits = 8 := by simp only [show Int.toNat 8 = 8 from rfl]; omega
  have := y_shl (x := x) (E := E) (ρ := ρ) (L := L) (ty := ty) (t := t) (t' := t') (c := 8) h1 h2 (by decide) hc
  rw [show (2 : Int) ^ 8 = 256 from rfl, wrap_id h] at this
  exact this
theorem y_or8 {p q : Operand} {t t' : TypeId} {m n : Int} (h1 : ev E p = some (.int .u64 m)) (h2 : ev E q = some (.int .u64 n)) (h : 0 ≤ m ∧ m % 256 = 0 ∧ 0 ≤ n ∧ n < 256 ∧ m + n ≤ 18446744073709551615) : Yl x (.binOp .or t p q t') ty E ρ L (.int .u64 (m + n)) := fun a w _ _ _ _ ha _ => by
  obtain ⟨hm0, hmd, hn0, hn1, hs⟩ := h
  have key : IntKind.u64.wrap ((BitVec.ofInt 64 m ||| BitVec.ofInt 64 n).toNat : Int) = m + n := by
    obtain ⟨a, rfl⟩ : ∃ a : Nat, m = (a * 2 ^ 8 : Nat) := ⟨(m / 256).toNat, by have : (2 : Nat) ^ 8 = 256 := rfl; omega⟩
    obtain ⟨b, rfl⟩ : ∃ b : Nat, n = b := ⟨n.toNat, by omega⟩
    have hb : b < 2 ^ 8 := by have : (2 : Nat) ^ 8 = 256 := rfl; omega
    have h8 : (2 : Nat) ^ 8 = 256 := rfl
    have h64 : (2 : Nat) ^ 64 = 18446744073709551616 := rfl
    rw [BitVec.toNat_or, BitVec.ofInt_natCast, BitVec.ofInt_natCast, BitVec.toNat_ofNat, BitVec.toNat_ofNat, Nat.mod_eq_of_lt (by omega), Nat.mod_eq_of_lt (by omega), Nat.mul_comm a, ← Nat.two_pow_add_eq_or_of_lt hb a]
    rw [show IntKind.u64.wrap ((2 ^ 8 * a + b : Nat) : Int) = ((2 ^ 8 * a + b : Nat) : Int) from wrap_id (by simp only [lo, hi]; omega)]
    omega
  have hb : (Op.intBits .or .u64 m n).run x.P w = .ok (.int .u64 (m + n)) w := by
    show (pure (.int .u64 (IntKind.u64.wrap ((BitVec.ofInt 64 m ||| BitVec.ofInt 64 n).toNat : Int))) : Sem Value).run x.P w = _
    rw [key]; rfl
  simp [execOp, ha.eval h1, ha.eval h2, eqGuard, binOp, hb]
/-- '[]byte("..")': the row gets a mark -/
theorem tl_mark {d t e b n c : Nat} {p : Operand} {C : List Value} {T : TypeId} {f : Obj → SH} (hp : ev E p = some (.slice (some ⟨b, 0, none⟩) n c)) [hS : TySlice x.P t e] [hE : TyInt x.P e .u8] [hU : Upd b L (.cells ⟨C⟩ T (0, 0)) f] (hd : Nat.blt d x.N = true)
    (k : TL x ops rest Q ((d, .slice (some ⟨b, 0, none⟩) n c) :: E) ρ (f (.cells ⟨C⟩ T (C.length, C.length + 1)))) :
    TL x ops (⟨some d, .convert t t p, ty, pos, af, none⟩ :: rest) Q E ρ L := fun a w ha hw => by
  refine wpListIn_intro rfl rfl ?_
  obtain ⟨hs, hb⟩ := hw.upd hU (.cells ⟨C⟩ T (C.length, C.length + 1))
  have hsh : w.shape? b = some (T, C.length) := by simp [World.shape?, hb]
  have hfr : w.freeze ⟨b, C.length, none⟩ 1 = putB w b (.cells ⟨C⟩ T (C.length, C.length + 1)) := by
    unfold World.freeze putB
    rw [if_neg (by decide)]
    congr 1
    obtain ⟨hlt, hv⟩ := Array.getElem?_eq_some_iff.1 hb
    apply Array.ext_getElem?
    intro i
    rw [Array.getElem?_modify]
    by_cases hi : b = i
    · subst hi; simp [hlt, hv]
    · rw [if_neg hi, Array.getElem?_setIfInBounds_ne hi]
  have hrun : (convert t t (.slice (some ⟨b, 0, none⟩) n c)).run x.P w = .ok (.slice (some ⟨b, 0, none⟩) n c) (putB w b (.cells ⟨C⟩ T (C.length, C.length + 1))) := by
    simp [convert, underlying, hS.out, hE.out, markStringish, hsh, hfr]
  have : (execOp a.eval ⟨some d, .convert t t p, ty, pos, af, none⟩).run x.P w = .ok (.value (.slice (some ⟨b, 0, none⟩) n c)) (putB w b (.cells ⟨C⟩ T (C.length, C.length + 1))) := by
    simp only [execOp, ha.eval hp, Sem.run_bind, hrun, Result.andThen_ok, Sem.run_pure]
  rw [this]
  exact k _ _ (ha.put (Nat.le_of_ble_eq_true hd) _) hs
end
end Go.Proofs.E

