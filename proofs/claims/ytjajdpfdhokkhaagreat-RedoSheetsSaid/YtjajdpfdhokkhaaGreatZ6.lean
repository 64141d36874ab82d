/- The law RedoSheets. Part 6 of 12. -/
import Derived.Test.YtjajdpfdhokkhaaGreatZ5
namespace Go.Proofs.E
open Go
set_option linter.unusedVariables false
set_option linter.unusedSimpArgs false
set_option linter.unusedSectionVars false
set_option maxRecDepth 4000
set_option maxHeartbeats 1000000
attribute [local irreducible] Yl TL TC TE Spec Xn R1 Hp.le EnvLe TS TR YS Zq
theorem sameR_spec (ρ : Hp) (w w' : CV) (c d : Cont) (h : CIn ρ w c.rows c.kids) (h' : CIn ρ w' d.rows d.kids) :
  Spec Tryz.prog 93 [.agg ⟨contV c.kind w⟩, .agg ⟨contV d.kind w'⟩] ρ [] (fun v ρ' L' => v = .bool (decide (c = d)) ∧ ρ' = ρ ∧ L' = []) := by
 obtain ⟨kind, rows, kids⟩ := c
 obtain ⟨kind', rows', kids'⟩ := d
 obtain ⟨ra, rn, rc, ka, kn, kc⟩ := w
 obtain ⟨ra', rn', rc', ka', kn', kc'⟩ := w'
 obtain ⟨hr, hk, hrb, hkb, hrc, hkc⟩ := h
 obtain ⟨hr', hk', hrb', hkb', hrc', hkc'⟩ := h'
 dsimp only at hrc hkc hr hk hrb hkb hrc' hkc' hr' hk' hrb' hkb' ⊢
 have hrn := hr.len
 have hkn := hk.len
 have hrn' := hr'.len
 have hkn' := hk'.len
 simp only [Cont.mk.injEq]
 refine Zf Tryz.func93 rfl rfl rfl fun u R => ?_
 simp only [ZG, List.cons_append, List.nil_append, contV]
 by_cases h1 : kind = kind'
 ·by_cases h2 : rn = rn'
  ·by_cases h3 : kn = kn'
   ·subst h1; subst h2; subst h3
    repeat' (first | (refine Zj ?_; first | (refine Zi ?_; refine qQ ?_) | refine Zo ?_) | refine Zc ?_ | (refine Zh ?_; refine Zz ?_) | (refine Zg ?_; refine Zy ?_) | intro _)
    rename_i b1 b2
    refine ZL [(2, _), (3, _), (4, _), (32, _)] (fun (ζ : (Nat)) => [(33, .int .i64 ζ)]) (fun (ζ : (Nat)) => ρ) (fun (ζ : (Nat)) => [[(b2, .cells ⟨[.int .i64 kind, .slice ra' rn rc', .slice ka' kn kc']⟩ 110 (0, 0))], [(b1, .cells ⟨[.int .i64 kind, .slice ra rn rc, .slice ka kn kc]⟩ 110 (0, 0))]]) (fun (ζ : (Nat)) => ζ ≤ rn ∧ rows.take ζ = rows'.take ζ) (fun (ζ : (Nat)) => rn - ζ) (0) (⟨Nat.zero_le _, rfl⟩) Zn Zn rfl tk ?_
    rintro k hI
    try simp only [List.cons_append, List.nil_append, List.append_assoc, List.append_eq] at hI ⊢
    try dsimp only at hI ⊢
    obtain ⟨hk0, hpre⟩ := hI
    by_cases hlt : k < rn
    ·obtain ⟨b, off, C, T, fr, rfl, hb, hfit, hc⟩ := hr.get (show k < rows.length by omega)
     obtain ⟨b', off', C', T', fr', rfl, hb', hfit', hc'⟩ := hr'.get (show k < rows'.length by omega)
     have ht1 := List.take_succ_eq_append_getElem (show k < rows.length by omega)
     have ht2 := List.take_succ_eq_append_getElem (show k < rows'.length by omega)
     have hf : rows = rows' → rows[k]'(by omega) = rows'[k]'(by omega) := fun e => by subst e; rfl
     generalize rows[k]'(by omega) = x at *
     generalize rows'[k]'(by omega) = y at *
     by_cases he : x = y
     ·have hd : decide (x = y) = true := decide_eq_true he
      repeat' (first | (refine Zj ?_; first | (refine Zi ?_; refine qQ ?_) | refine Zo ?_) | refine Zc ?_ | (refine Zh ?_; refine Zz ?_) | (refine Zg ?_; refine Zy ?_) | intro _)
      refine ZJ (Zq _ _ ([[(b2, .cells ⟨[.int .i64 kind, .slice (some ⟨b', off', none⟩) rn rc', .slice ka' kn kc']⟩ 110 (0, 0))], [(b1, .cells ⟨[.int .i64 kind, .slice (some ⟨b, off, none⟩) rn rc, .slice ka kn kc]⟩ 110 (0, 0))]])) (Yc (hT := tk) (Hp.le_refl _)) ?_
      all_goals (refine rFa 0 ?_; refine ZY ?_; refine rLd 1 ?_; refine ZW 2 ?_; refine rIa 3 ?_; refine rLd 4 ?_; refine rFa 5 ?_; refine rLd 6 ?_; refine ZW 7 ?_; refine rIa 8 ?_; refine rLd 9 ?_; refine rCm 10 ?_; refine ZT ?_)
      repeat' (first | (refine Zj ?_; first | (refine Zi ?_; refine qQ ?_) | refine Zo ?_) | refine Zc ?_ | (refine Zh ?_; refine Zz ?_) | (refine Zg ?_; refine Zy ?_) | intro _)
      refine Zu (k + 1) (⟨hlt, by rw [ht1, ht2, hpre, he]⟩) Zn Zn rfl tk inferInstance (by first | omega | (dsimp only; omega))
     ·have hd : decide (x = y) = false := decide_eq_false he
      rw [decide_eq_false (fun e => he (hf e.2.1))]
      repeat' (first | (refine Zj ?_; first | (refine Zi ?_; refine qQ ?_) | refine Zo ?_) | refine Zc ?_ | (refine Zh ?_; refine Zz ?_) | (refine Zg ?_; refine Zy ?_) | intro _)
      refine ZJ (Zq _ _ ([[(b2, .cells ⟨[.int .i64 kind, .slice (some ⟨b', off', none⟩) rn rc', .slice ka' kn kc']⟩ 110 (0, 0))], [(b1, .cells ⟨[.int .i64 kind, .slice (some ⟨b, off, none⟩) rn rc, .slice ka kn kc]⟩ 110 (0, 0))]])) (Yc (hT := tk) (Hp.le_refl _)) ?_
      all_goals (refine rFa 0 ?_; refine ZY ?_; refine rLd 1 ?_; refine ZW 2 ?_; refine rIa 3 ?_; refine rLd 4 ?_; refine rFa 5 ?_; refine rLd 6 ?_; refine ZW 7 ?_; refine rIa 8 ?_; refine rLd 9 ?_; refine rCm 10 ?_; refine ZT ?_)
      repeat' (first | (refine Zj ?_; first | (refine Zi ?_; refine qQ ?_) | refine Zo ?_) | refine Zc ?_ | (refine Zh ?_; refine Zz ?_) | (refine Zg ?_; refine Zy ?_) | intro _)
      exact qE ⟨rfl, rfl, rfl⟩
    ·have hk2 : k = rn := by omega
     subst hk2
     rw [List.take_of_length_le (by omega), List.take_of_length_le (by omega)] at hpre
     subst hpre
     repeat' (first | (refine Zj ?_; first | (refine Zi ?_; refine qQ ?_) | refine Zo ?_) | refine Zc ?_ | (refine Zh ?_; refine Zz ?_) | (refine Zg ?_; refine Zy ?_) | intro _)
     refine ZL [(2, _), (3, _), (4, _), (50, _)] (fun (ζ : (Nat)) => [(51, .int .i64 ζ)]) (fun (ζ : (Nat)) => ρ) (fun (ζ : (Nat)) => [[(b2, .cells ⟨[.int .i64 kind, .slice ra' k rc', .slice ka' kn kc']⟩ 110 (0, 0))], [(b1, .cells ⟨[.int .i64 kind, .slice ra k rc, .slice ka kn kc]⟩ 110 (0, 0))]]) (fun (ζ : (Nat)) => ζ ≤ kn ∧ kids.take ζ = kids'.take ζ) (fun (ζ : (Nat)) => kn - ζ) (0) (⟨Nat.zero_le _, rfl⟩) Zn Zn rfl tk ?_
     rintro j hI
     try simp only [List.cons_append, List.nil_append, List.append_assoc, List.append_eq] at hI ⊢
     try dsimp only at hI ⊢
     obtain ⟨hj0, hpre⟩ := hI
     by_cases hlj : j < kn
     ·obtain ⟨b, off, C, T, fr, rfl, hb, hfit, hc⟩ := hk.get (show j < kids.length by omega)
      obtain ⟨b', off', C', T', fr', rfl, hb', hfit', hc'⟩ := hk'.get (show j < kids'.length by omega)
      have ht1 := List.take_succ_eq_append_getElem (show j < kids.length by omega)
      have ht2 := List.take_succ_eq_append_getElem (show j < kids'.length by omega)
      have hf : kids = kids' → kids[j]'(by omega) = kids'[j]'(by omega) := fun e => by subst e; rfl
      generalize kids[j]'(by omega) = x at *
      generalize kids'[j]'(by omega) = y at *
      by_cases he : x = y
      ·have hd : decide (x = y) = true := decide_eq_true he
       repeat' (first | (refine Zj ?_; first | (refine Zi ?_; refine qQ ?_) | refine Zo ?_) | refine Zc ?_ | (refine Zh ?_; refine Zz ?_) | (refine Zg ?_; refine Zy ?_) | intro _)
       refine ZJ (Zq _ _ ([[(b2, .cells ⟨[.int .i64 kind, .slice ra' k rc', .slice (some ⟨b', off', none⟩) kn kc']⟩ 110 (0, 0))], [(b1, .cells ⟨[.int .i64 kind, .slice ra k rc, .slice (some ⟨b, off, none⟩) kn kc]⟩ 110 (0, 0))]])) (Yc (hT := tk) (Hp.le_refl _)) ?_
       all_goals (refine rFa 0 ?_; refine ZY ?_; refine rLd 1 ?_; refine ZW 2 ?_; refine rIa 3 ?_; refine rLd 4 ?_; refine rFa 5 ?_; refine rLd 6 ?_; refine ZW 7 ?_; refine rIa 8 ?_; refine rLd 9 ?_; refine rCm 10 ?_; refine ZT ?_)
       repeat' (first | (refine Zj ?_; first | (refine Zi ?_; refine qQ ?_) | refine Zo ?_) | refine Zc ?_ | (refine Zh ?_; refine Zz ?_) | (refine Zg ?_; refine Zy ?_) | intro _)
       refine Zu (j + 1) (⟨hlj, by rw [ht1, ht2, hpre, he]⟩) Zn Zn rfl tk inferInstance (by first | omega | (dsimp only; omega))
      ·have hd : decide (x = y) = false := decide_eq_false he
       rw [decide_eq_false (fun e => he (hf e.2.2))]
       repeat' (first | (refine Zj ?_; first | (refine Zi ?_; refine qQ ?_) | refine Zo ?_) | refine Zc ?_ | (refine Zh ?_; refine Zz ?_) | (refine Zg ?_; refine Zy ?_) | intro _)
       refine ZJ (Zq _ _ ([[(b2, .cells ⟨[.int .i64 kind, .slice ra' k rc', .slice (some ⟨b', off', none⟩) kn kc']⟩ 110 (0, 0))], [(b1, .cells ⟨[.int .i64 kind, .slice ra k rc, .slice (some ⟨b, off, none⟩) kn kc]⟩ 110 (0, 0))]])) (Yc (hT := tk) (Hp.le_refl _)) ?_
       all_goals (refine rFa 0 ?_; refine ZY ?_; refine rLd 1 ?_; refine ZW 2 ?_; refine rIa 3 ?_; refine rLd 4 ?_; refine rFa 5 ?_; refine rLd 6 ?_; refine ZW 7 ?_; refine rIa 8 ?_; refine rLd 9 ?_; refine rCm 10 ?_; refine ZT ?_)
       repeat' (first | (refine Zj ?_; first | (refine Zi ?_; refine qQ ?_) | refine Zo ?_) | refine Zc ?_ | (refine Zh ?_; refine Zz ?_) | (refine Zg ?_; refine Zy ?_) | intro _)
       exact qE ⟨rfl, rfl, rfl⟩
     ·have hj2 : j = kn := by omega
      subst hj2
      rw [List.take_of_length_le (by omega), List.take_of_length_le (by omega)] at hpre
      subst hpre
      rw [decide_eq_true ⟨trivial, trivial, rfl⟩]
      repeat' (first | (refine Zj ?_; first | (refine Zi ?_; refine qQ ?_) | refine Zo ?_) | refine Zc ?_ | (refine Zh ?_; refine Zz ?_) | (refine Zg ?_; refine Zy ?_) | intro _)
      exact qE ⟨rfl, rfl, rfl⟩
   ·rw [decide_eq_false (fun e => h3 (by rw [← hkn, ← hkn', e.2.2]))]
    repeat' (first | (refine Zj ?_; first | (refine Zi ?_; refine qQ ?_) | refine Zo ?_) | refine Zc ?_ | (refine Zh ?_; refine Zz ?_) | (refine Zg ?_; refine Zy ?_) | intro _)
    exact qE ⟨rfl, rfl, rfl⟩
  ·rw [decide_eq_false (fun e => h2 (by rw [← hrn, ← hrn', e.2.1]))]
   repeat' (first | (refine Zj ?_; first | (refine Zi ?_; refine qQ ?_) | refine Zo ?_) | refine Zc ?_ | (refine Zh ?_; refine Zz ?_) | (refine Zg ?_; refine Zy ?_) | intro _)
   exact qE ⟨rfl, rfl, rfl⟩
 ·rw [decide_eq_false (fun e => h1 e.1)]
  repeat' (first | (refine Zj ?_; first | (refine Zi ?_; refine qQ ?_) | refine Zo ?_) | refine Zc ?_ | (refine Zh ?_; refine Zz ?_) | (refine Zg ?_; refine Zy ?_) | intro _)
  exact qE ⟨rfl, rfl, rfl⟩
structure CI (ρ : Hp) (v : CV) (c : Cont) : Prop where
 cin : CIn ρ v c.rows c.kids
 row : ∀ r ∈ c.rows, RowFit r
 kid : ∀ k ∈ c.kids, k.id < 65536
theorem CI.mono {ρ ρ' v c} (h : CI ρ v c) (hle : ρ.le ρ') : CI ρ' v c := ⟨h.cin.mono hle, h.row, h.kid⟩
theorem CI.nil {ρ : Hp} : CI ρ ⟨none, 0, 0, none, 0, 0⟩ ⟨0, [], []⟩ := ⟨CIn.nil, by simp, by simp⟩
structure Im where
 page : Int
 bv : CV
 b : Cont
 av : CV
 a : Cont
abbrev imV (x : Im) : List Value := [.int .i64 x.page, .int .i64 x.b.kind, .slice x.bv.ra x.bv.rn x.bv.rc, .slice x.bv.ka x.bv.kn x.bv.kc, .int .i64 x.a.kind, .slice x.av.ra x.av.rn x.av.rc, .slice x.av.ka x.av.kn x.av.kc]
structure Im.In (ρ : Hp) (x : Im) : Prop where
 b : CI ρ x.bv x.b
 a : CI ρ x.av x.a
theorem Im.In.mono {ρ ρ' x} (h : Im.In ρ x) (hle : ρ.le ρ') : Im.In ρ' x := ⟨h.b.mono hle, h.a.mono hle⟩
abbrev Im.says (x : Im) : Int × Cont × Cont := (x.page, x.b, x.a)
structure Stp where
 kind : Int
 row : Row
 by' : Int
deriving DecidableEq
abbrev stpV (s : Stp) : List Value := [.int .i64 s.kind, .int .i64 s.row.t, .int .u16 s.row.id, .int .i64 s.row.val, strV s.row.note, .int .i64 s.by']
structure CkT where
 txn : Int
 first : Nat
 last : Nat
 undo : Nat
 state : Int
deriving DecidableEq
abbrev ckTV (t : CkT) : List Value := [.int .i64 t.txn, .int .u64 t.first, .int .u64 t.last, .int .u64 t.undo, .int .i64 t.state]
structure CkP where
 page : Int
 since : Nat
deriving DecidableEq
abbrev YG (p : CkP) : List Value := [.int .i64 p.page, .int .u64 p.since]
structure Rc where
 kind : Int
 lsn : Nat
 txn : Int
 prev : Nat
 next : Nat
 ims : List Im
 steps : List Stp
 nextTxn : Int
 txns : List CkT
 dirty : List CkP
structure SV where
 a : Option Addr
 n : Nat
 c : Nat
abbrev SV.v (s : SV) : Value := .slice s.a s.n s.c
structure RV where
 i : SV
 s : SV
 t : SV
 d : SV
abbrev Xo (v : RV) (r : Rc) : List Value := [.int .i64 r.kind, .int .u64 r.lsn, .int .i64 r.txn, .int .u64 r.prev, .int .u64 r.next, .slice v.i.a v.i.n v.i.c, .slice v.s.a v.s.n v.s.c, .int .i64 r.nextTxn, .slice v.t.a v.t.n v.t.c, .slice v.d.a v.d.n v.d.c]
theorem imV_len (x : Im) : (imV x).length = 7 := rfl
theorem stpV_len (x : Stp) : (stpV x).length = 6 := rfl
theorem stpV_one (x : Stp) : (stpV x).all (·.oneCell') = true := rfl
theorem ckTV_len (x : CkT) : (ckTV x).length = 5 := rfl
theorem ckTV_one (x : CkT) : (ckTV x).all (·.oneCell') = true := rfl
theorem ckPV_len (x : CkP) : (YG x).length = 2 := rfl
theorem ckPV_one (x : CkP) : (YG x).all (·.oneCell') = true := rfl
structure AS (ρ : Hp) (sz : Nat) {α : Type} (g : α → List Value) (s : SV) (l : List α) : Prop where
 at' : AIn ρ sz g s.a s.n l
 big : s.n ≤ 1000000
 cap : s.n ≤ s.c
theorem AS.mono {ρ ρ' : Hp} {sz : Nat} {α : Type} {g : α → List Value} {s : SV} {l : List α} (h : AS ρ sz g s l) (hle : ρ.le ρ') : AS ρ' sz g s l := ⟨h.at'.mono hle, h.big, h.cap⟩
theorem AS.nil {ρ : Hp} {sz : Nat} {α : Type} {g : α → List Value} : AS ρ sz g ⟨none, 0, 0⟩ [] := ⟨AIn.nil, Nat.zero_le _, Nat.le_refl _⟩
structure RcIn (ρ : Hp) (v : RV) (r : Rc) : Prop where
 i : AS ρ 7 imV v.i r.ims
 im : ∀ x ∈ r.ims, Im.In ρ x
 s : AS ρ 6 stpV v.s r.steps
 t : AS ρ 5 ckTV v.t r.txns
 d : AS ρ 2 YG v.d r.dirty
 sf : ∀ s ∈ r.steps, RowFit s.row
theorem RcIn.mono {ρ ρ' v r} (h : RcIn ρ v r) (hle : ρ.le ρ') : RcIn ρ' v r := ⟨h.i.mono hle, fun x hx => (h.im x hx).mono hle, h.s.mono hle, h.t.mono hle, h.d.mono hle, h.sf⟩
def upB {α : Type} (right : α → Bool) (by' : α → Int) (l : List α) (k : Nat) : Bool := Zv l.length (fun _ x => right x) (fun y x => decide (by' y < by' x)) l k
def pageOk (n : Int) : Bool := decide (0 ≤ n ∧ n < 64)
def imOk (before : Bool) (x : Im) : Bool := pageOk x.page && (Yq x.a && (Yq x.b && (before || decide (x.b.kind = 0))))
def imsOk (before : Bool) (l : List Im) : Bool := decide (l.length ≤ 16) && upB (imOk before) Im.page l l.length
def onlyOk (s : Stp) : Bool := decide (s.row.val = 0 ∧ s.row.note = []) && decide (0 ≤ s.row.t ∧ s.row.t < 3)
def Yn (s : Stp) : Bool :=
 if s.kind = 1 then onlyOk s
 else if s.kind = 4 then onlyOk s && decide (s.by' = 0)
 else if s.kind = 2 ∨ s.kind = 3 then decide (s.by' = 0) && YJ s.row
 else false
def ckTOk (lsn : Nat) (next : Int) (t : CkT) : Bool := decide (1 ≤ t.txn ∧ t.txn < next ∧ 1 ≤ t.first ∧ t.first ≤ t.last ∧ t.last < lsn ∧ t.undo ≤ t.last ∧ 1 ≤ t.state ∧ t.state ≤ 3)
def ckPOk (lsn : Nat) (p : CkP) : Bool := pageOk p.page && decide (1 ≤ p.since ∧ p.since < lsn)
def headOk (r : Rc) : Bool := decide (1 ≤ r.lsn ∧ r.lsn ≤ 1099511627776 ∧ r.prev < r.lsn ∧ 0 ≤ r.txn ∧ r.txn ≤ 1073741824 ∧ (r.kind = 9 ↔ r.txn = 0) ∧ ((r.kind = 9 ∨ r.kind = 1) ↔ r.prev = 0))
def askOk (r : Rc) : Bool :=
 if r.kind = 2 then decide (0 < r.ims.length) && imsOk true r.ims
 else if r.kind = 3 then decide (r.next < r.prev)
 else if r.kind = 4 then decide (r.next < r.prev) && (decide (0 < r.steps.length ∧ r.steps.length ≤ 2) && r.steps.all Yn)
 else if r.kind = 5 then decide (r.next < r.lsn) && imsOk false r.ims
 else if r.kind = 9 then decide (1 ≤ r.nextTxn ∧ r.nextTxn ≤ 1073741824 ∧ r.txns.length ≤ 8) && (upB (ckTOk r.lsn r.nextTxn) CkT.txn r.txns r.txns.length && upB (ckPOk r.lsn) CkP.page r.dirty r.dirty.length)
 else true
def bareOk (r : Rc) : Bool := decide (
 (r.next = 0 ∨ r.kind = 3 ∨ r.kind = 4 ∨ r.kind = 5) ∧ (r.ims = [] ∨ r.kind = 2 ∨ r.kind = 5) ∧ (r.steps = [] ∨ r.kind = 4) ∧
 ((r.txns = [] ∧ r.dirty = [] ∧ r.nextTxn = 0) ∨ r.kind = 9))
def Yo (r : Rc) : Bool := decide (1 ≤ r.kind ∧ r.kind ≤ 9) && (headOk r && (askOk r && bareOk r))
end Go.Proofs.E
