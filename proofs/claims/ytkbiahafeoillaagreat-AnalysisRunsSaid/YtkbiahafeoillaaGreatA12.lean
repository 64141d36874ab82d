/- Laws of analysis. Part 12 of 41. -/
import Derived.Test.YtkbiahafeoillaaGreatA11
namespace Go.Proofs.E
open Go
set_option linter.unusedVariables false
set_option linter.unusedSimpArgs false
set_option linter.unusedSectionVars false
set_option maxRecDepth 4000
set_option maxHeartbeats 1000000
attribute [local irreducible] Yl TL TC TE Spec Xb R1 Hp.le EnvLe TS TR YS Zk
structure BareR (v' : RV) (r' r : Rc) : Prop where
 i : v'.i.n ≤ 1000000
 s : v'.s.n ≤ 1000000
 t : v'.t.n ≤ 1000000
 d : v'.d.n ≤ 1000000
 eq : decide (r'.next = 0 ∧ v'.i.n = 0 ∧ v'.s.n = 0 ∧ v'.t.n = 0 ∧ v'.d.n = 0 ∧ r'.nextTxn = 0) = bareOk r
def askF (k : Int) : Nat := if k = 2 then 87 else if k = 3 then 88 else if k = 4 then 89 else if k = 5 then 90 else if k = 9 then 91 else 86
theorem ask_spec (ρ : Hp) (ab : Nat) (v : RV) (r : Rc) (h : RcIn ρ v r) (hk : 1 ≤ r.kind ∧ r.kind ≤ 9) : Ya Tryz.prog (askF r.kind) ∧ Spec Tryz.prog (askF r.kind) [.pointer (some ⟨ab, 0, none⟩)] ρ [XO ab v r]
  (fun z ρ' L' => z = .bool (askOk r) ∧ ρ' = ρ ∧ ∃ v' r', BareR v' r' r ∧ L' = [XO ab v' r']) := by
 have li := h.i.at'.len
 have ls := h.s.at'.len
 have lt := h.t.at'.len
 have ld := h.d.at'.len
 have bi := h.i.big
 have bs := h.s.big
 have bt := h.t.big
 have bd := h.d.big
 have z0 : Yw.n = 0 := rfl
 have ei : r.ims = [] ↔ v.i.n = 0 := by rw [← li]; exact List.length_eq_zero_iff.symm
 have es : r.steps = [] ↔ v.s.n = 0 := by rw [← ls]; exact List.length_eq_zero_iff.symm
 have et : r.txns = [] ↔ v.t.n = 0 := by rw [← lt]; exact List.length_eq_zero_iff.symm
 have ed : r.dirty = [] ↔ v.d.n = 0 := by rw [← ld]; exact List.length_eq_zero_iff.symm
 unfold askF askOk
 have hb : ∀ (v' : RV) (r' : Rc), (v'.i.n ≤ 1000000 ∧ v'.s.n ≤ 1000000 ∧ v'.t.n ≤ 1000000 ∧ v'.d.n ≤ 1000000) → ((r'.next = 0 ∧ v'.i.n = 0 ∧ v'.s.n = 0 ∧ v'.t.n = 0 ∧ v'.d.n = 0 ∧ r'.nextTxn = 0) ↔
   ((r.next = 0 ∨ r.kind = 3 ∨ r.kind = 4 ∨ r.kind = 5) ∧ (v.i.n = 0 ∨ r.kind = 2 ∨ r.kind = 5) ∧ (v.s.n = 0 ∨ r.kind = 4) ∧ ((v.t.n = 0 ∧ v.d.n = 0 ∧ r.nextTxn = 0) ∨ r.kind = 9))) → BareR v' r' r := fun v' r' h1 h2 =>
  ⟨h1.1, h1.2.1, h1.2.2.1, h1.2.2.2, by unfold bareOk; apply decide_eq_decide.2; rw [ei, es, et, ed]; exact h2⟩
 by_cases k2 : r.kind = 2
 ·rw [if_pos k2, if_pos k2]
  refine ⟨inferInstance, (achange_spec ρ ab v r h).mono ?_⟩
  rintro z ρ' L' _ ⟨rfl, rfl, rfl⟩
  exact ⟨rfl, rfl, _, _, hb { v with i := Yw } r (by dsimp only; omega) (by dsimp only; omega), rfl⟩
 ·rw [if_neg k2, if_neg k2]
  by_cases k3 : r.kind = 3
  ·rw [if_pos k3, if_pos k3]
   refine ⟨inferInstance, (anested_spec ρ ab v r).mono ?_⟩
   rintro z ρ' L' _ ⟨rfl, rfl, rfl⟩
   exact ⟨rfl, rfl, _, _, hb v { r with next := 0 } (by omega) (by dsimp only; omega), rfl⟩
  ·rw [if_neg k3, if_neg k3]
   by_cases k4 : r.kind = 4
   ·rw [if_pos k4, if_pos k4]
    refine ⟨inferInstance, (adone_spec ρ ab v r h).mono ?_⟩
    rintro z ρ' L' _ ⟨rfl, rfl, rfl⟩
    exact ⟨rfl, rfl, _, _, hb { v with s := Yw } { r with next := 0 } (by dsimp only; omega) (by dsimp only; omega), rfl⟩
   ·rw [if_neg k4, if_neg k4]
    by_cases k5 : r.kind = 5
    ·rw [if_pos k5, if_pos k5]
     refine ⟨inferInstance, (aundone_spec ρ ab v r h).mono ?_⟩
     rintro z ρ' L' _ ⟨rfl, rfl, rfl⟩
     exact ⟨rfl, rfl, _, _, hb { v with i := Yw } { r with next := 0 } (by dsimp only; omega) (by dsimp only; omega), rfl⟩
    ·rw [if_neg k5, if_neg k5]
     by_cases k9 : r.kind = 9
     ·rw [if_pos k9, if_pos k9]
      refine ⟨inferInstance, (ackpt_spec ρ ab v r h).mono ?_⟩
      rintro z ρ' L' _ ⟨rfl, rfl, rfl⟩
      exact ⟨rfl, rfl, _, _, hb { v with t := Yw, d := Yw } { r with nextTxn := 0 } (by dsimp only; omega) (by dsimp only; omega), rfl⟩
     ·rw [if_neg k9, if_neg k9]
      refine ⟨inferInstance, (aplain_spec ρ ab v r).mono ?_⟩
      rintro z ρ' L' _ ⟨rfl, rfl, rfl⟩
      exact ⟨rfl, rfl, _, _, hb v r (by omega) (by omega), rfl⟩
theorem askF_chain {f : Nat → Option Value} {k : Int} (hk : 1 ≤ k ∧ k ≤ 9) : (if k = 9 then f 91 else if k = 8 then f 86 else if k = 7 then f 86 else if k = 6 then f 86 else if k = 5 then f 90 else
  if k = 4 then f 89 else if k = 3 then f 88 else if k = 2 then f 87 else if k = 1 then f 86 else none) = f (askF k) := by
 unfold askF
 rcases (show k = 1 ∨ k = 2 ∨ k = 3 ∨ k = 4 ∨ k = 5 ∨ k = 6 ∨ k = 7 ∨ k = 8 ∨ k = 9 by omega) with e | e | e | e | e | e | e | e | e <;> subst e <;> rfl
theorem WA (ρ : Hp) (v : RV) (r : Rc) (h : RcIn ρ v r) : Spec Tryz.prog 52 [.agg ⟨Yx v r⟩] ρ [] (fun z ρ' L' => z = .int .i64 (if ZU r then 0 else 220) ∧ ρ' = ρ ∧ L' = []) := by
 have hnil : Xm .i64 [] := by intro e he; simp at he
 have hg0 : ∀ k : Int, XH [] k = none := fun _ => rfl
 refine Zd Tryz.func52 rfl rfl rfl fun u R => ?_
 simp only [Zo, List.cons_append, List.nil_append]
 repeat' (first | (refine Ys rfl rfl rfl hnil (fun es1 ck1 i1 j1 => ?_)) | (refine Ys rfl rfl rfl i1 (fun es2 ck2 i2 j2 => ?_)) | (refine Ys rfl rfl rfl i2 (fun es3 ck3 i3 j3 => ?_)) | (refine Ys rfl rfl rfl i3 (fun es4 ck4 i4 j4 => ?_)) | (refine Ys rfl rfl rfl i4 (fun es5 ck5 i5 j5 => ?_)) | (refine Ys rfl rfl rfl i5 (fun es6 ck6 i6 j6 => ?_)) | (refine Ys rfl rfl rfl i6 (fun es7 ck7 i7 j7 => ?_)) | (refine Ys rfl rfl rfl i7 (fun es8 ck8 i8 j8 => ?_)) | refine zV ?_ | intro _)
 rename_i rb ab mb
 refine Ys rfl rfl rfl i8 (fun es9 ck9 i9 j9 => ?_)
 have hg := j9 r.kind
 rw [j8, j7, j6, j5, j4, j3, j2, j1, hg0] at hg
 clear j1 j2 j3 j4 j5 j6 j7 j8 j9 i1 i2 i3 i4 i5 i6 i7 i8
 by_cases hk : 1 ≤ r.kind ∧ r.kind ≤ 9
 ·obtain ⟨hF, hS⟩ := ask_spec ρ ab v r h hk
  have hgF : XH es9 r.kind = some (Value.func (.func (askF r.kind)) ⟨[.pointer (some ⟨ab, 0, none⟩)]⟩ ⟨[]⟩) := by
   rw [hg]
   exact askF_chain (f := fun F => some (Value.func (.func F) ⟨[.pointer (some ⟨ab, 0, none⟩)]⟩ ⟨[]⟩)) hk
  clear hg
  generalize askF r.kind = F at *
  repeat' (first | (refine Zc (.tmp 90) ?_; refine qC rfl rfl (hS) ?_; rintro v ρ' L' hle ⟨rfl, rfl, v', r', hB, rfl⟩ <;> (try simp only [kM, kN, kO])) | (refine Zc (.func 92) ?_; refine qC rfl rfl (bare_spec _ v' r' hB.i hB.s hB.t hB.d) ?_; rintro v ρ' L' hle ⟨rfl, rfl, rfl⟩ <;> (try simp only [kM, kN, kO, hB.eq])) | refine zV ?_ | (refine YL ?_; refine ZB rfl rfl (fun hb => ?_) (fun hb => ?_) <;> (try simp only [decide_eq_true_eq, decide_eq_false_iff_not, Bool.not_eq_true, Bool.not_eq_false, beq_iff_eq, bne_iff_ne, ne_eq, decide_eq_decide, Bool.not_eq_eq_eq_not, Bool.not_true, Bool.not_false, beq_eq_false_iff_ne, bne_eq_false_iff_eq, Bool.and_eq_true, Bool.or_eq_true, Bool.and_eq_false_imp, Bool.or_eq_false_iff, bq2, bqt, bqf] at hb)) | (refine ZS ?_; refine ZM rfl (fun hb => ?_) (fun hb => ?_) <;> (try simp only [decide_eq_true_eq, decide_eq_false_iff_not, Bool.not_eq_true, Bool.not_eq_false, beq_iff_eq, bne_iff_ne, ne_eq, decide_eq_decide, Bool.not_eq_eq_eq_not, Bool.not_true, Bool.not_false, beq_eq_false_iff_ne, bne_eq_false_iff_eq, Bool.and_eq_true, Bool.or_eq_true, Bool.and_eq_false_imp, Bool.or_eq_false_iff, bq2, bqt, bqf] at hb)) | intro _)
  all_goals (refine qF (L' := []) ?_; refine ⟨?_, rfl, rfl⟩)
  all_goals first | (have hh : headOk r = false := decide_eq_false (by omega); simp only [ZU, hh, Bool.false_and, Bool.and_false, Bool.false_eq_true, if_false]) | (have hh : headOk r = true := decide_eq_true (by omega); have h9 : decide (1 ≤ r.kind ∧ r.kind ≤ 9) = true := decide_eq_true hk; simp [ZU, hh, h9, *])
 ·have hgN : XH es9 r.kind = none := by
   rw [hg]
   simp only [show ¬ r.kind = 9 by omega, show ¬ r.kind = 8 by omega, show ¬ r.kind = 7 by omega, show ¬ r.kind = 6 by omega, show ¬ r.kind = 5 by omega, show ¬ r.kind = 4 by omega, show ¬ r.kind = 3 by omega, show ¬ r.kind = 2 by omega, show ¬ r.kind = 1 by omega, if_false]
  clear hg
  have e0 : ZU r = false := by simp [ZU, hk]
  rw [e0]
  repeat' (first | refine zV ?_ | (refine YL ?_; refine ZB rfl rfl (fun hb => ?_) (fun hb => ?_) <;> (try simp only [decide_eq_true_eq, decide_eq_false_iff_not, Bool.not_eq_true, Bool.not_eq_false, beq_iff_eq, bne_iff_ne, ne_eq, decide_eq_decide, Bool.not_eq_eq_eq_not, Bool.not_true, Bool.not_false, beq_eq_false_iff_ne, bne_eq_false_iff_eq, Bool.and_eq_true, Bool.or_eq_true, Bool.and_eq_false_imp, Bool.or_eq_false_iff, bq2, bqt, bqf] at hb)) | (refine ZS ?_; refine ZM rfl (fun hb => ?_) (fun hb => ?_) <;> (try simp only [decide_eq_true_eq, decide_eq_false_iff_not, Bool.not_eq_true, Bool.not_eq_false, beq_iff_eq, bne_iff_ne, ne_eq, decide_eq_decide, Bool.not_eq_eq_eq_not, Bool.not_true, Bool.not_false, beq_eq_false_iff_ne, bne_eq_false_iff_eq, Bool.and_eq_true, Bool.or_eq_true, Bool.and_eq_false_imp, Bool.or_eq_false_iff, bq2, bqt, bqf] at hb)) | intro _)
  all_goals (refine qF (L' := []) ?_; exact ⟨rfl, rfl, rfl⟩)
structure Lf where
 lsn : Nat
 cost : Int
deriving DecidableEq
abbrev lfV (x : Lf) : List Value := [.int .u64 x.lsn, .int .i64 x.cost]
theorem lfV_len (x : Lf) : (lfV x).length = 2 := rfl
abbrev Yr (n : Nat) : Value := .int .u64 n
structure Tx where
 num : Int
 state : Int
 first : Nat
 last : Nat
 undo : Nat
 stack : List Lf
 marks : List Nat
 sv : SV
 mv : SV
abbrev Yk (x : Tx) : List Value := [.int .i64 x.num, .int .i64 x.state, .int .u64 x.first, .int .u64 x.last, .int .u64 x.undo, .slice x.sv.a x.sv.n x.sv.c, .slice x.mv.a x.mv.n x.mv.c]
theorem txV_len (x : Tx) : (Yk x).length = 7 := rfl
theorem txV_one (x : Tx) : (Yk x).all (·.oneCell') = true := rfl
structure Tx.In (ρ : Hp) (x : Tx) : Prop where
 s : AIn ρ 2 lfV x.sv.a x.sv.n x.stack
 m : SIn ρ Yr x.mv.a x.mv.n x.marks
 sb : x.sv.n ≤ 200000000000000
 mb : x.mv.n ≤ 200000000000000
 sc : x.sv.n ≤ x.sv.c
 mc : x.mv.n ≤ x.mv.c
theorem Tx.In.mono {ρ ρ' x} (h : Tx.In ρ x) (hle : ρ.le ρ') : Tx.In ρ' x := ⟨h.s.mono hle, h.m.mono hle, h.sb, h.mb, h.sc, h.mc⟩
structure Ros where
 next : Int
 txns : List Tx
abbrev XI (v : SV) (r : Ros) : List Value := [.int .i64 r.next, .slice v.a v.n v.c]
structure RosIn (ρ : Hp) (v : SV) (r : Ros) : Prop where
 at' : AS ρ 7 Yk v r.txns
 tx : ∀ x ∈ r.txns, Tx.In ρ x
theorem RosIn.mono {ρ ρ' v r} (h : RosIn ρ v r) (hle : ρ.le ρ') : RosIn ρ' v r := ⟨h.at'.mono hle, fun x hx => (h.tx x hx).mono hle⟩
def Wp (undo : Nat) : Nat → List Lf → Bool
 | _, [] => true
 | last, s :: r => decide (last < s.lsn ∧ s.lsn ≤ undo ∧ 1 ≤ s.cost ∧ s.cost ≤ 400) && Wp undo s.lsn r
def sortB (m : List Nat) : Bool := (List.range m.length).all (fun i => decide (i = 0 ∨ m.getD (i - 1) 0 ≤ m.getD i 0))
def WH (x : Tx) : Bool := decide (x.marks.length = 0) || (decide (x.state = 1 ∧ x.marks.length ≤ 8) && (sortB x.marks && decide (x.first ≤ x.marks.getD 0 0 ∧ x.marks.getD (x.marks.length - 1) 0 ≤ x.undo)))
def txHead (next last : Int) (x : Tx) : Bool := decide (last < x.num ∧ x.num < next ∧ 1 ≤ x.state ∧ x.state ≤ 3 ∧ 1 ≤ x.first ∧ x.first ≤ x.undo ∧ x.undo ≤ x.last ∧ x.last ≤ 1099511627776)
def txOk (next last : Int) (x : Tx) : Bool := txHead next last x && (Wp x.undo x.first x.stack && WH x)
def txsB (next : Int) : Int → List Tx → Bool
 | _, [] => true
 | last, x :: r => txOk next last x && txsB next x.num r
def WB (r : Ros) : Bool := decide (1 ≤ r.next ∧ r.next ≤ 1073741824 ∧ r.txns.length ≤ 8) && txsB r.next 0 r.txns
theorem XM {α : Type} {l : List α} {i : Nat} {d : α} (h : i < l.length) : l.getD i d = l[i] := by simp [List.getD, h]
theorem nanU64_spec (ρ : Hp) (x : Int) : Spec Tryz.prog 134 [.int .u64 x] ρ [] (fun v ρ' L' => v = .bool false ∧ ρ' = ρ ∧ L' = []) := by
 refine Zd Tryz.func134 rfl rfl rfl fun u R => ?_
 simp only [Zo, List.cons_append, List.nil_append]
 repeat' (first | refine zV ?_ | intro _)
 exact qE ⟨rfl, rfl, rfl⟩
theorem lessU64_spec (ρ : Hp) (x y : Int) : Spec Tryz.prog 182 [.int .u64 x, .int .u64 y] ρ [] (fun v ρ' L' => v = .bool (decide (x < y)) ∧ ρ' = ρ ∧ L' = []) := by
 refine Zd Tryz.func182 rfl rfl rfl fun u R => ?_
 simp only [Zo, List.cons_append, List.nil_append]
 repeat' (first | (refine Zc (.func 134) ?_; refine qC rfl rfl (nanU64_spec _ _) ?_; rintro v ρ' L' hle ⟨rfl, rfl, rfl⟩ <;> (try simp only [kM, kN, kO])) | refine zV ?_ | intro _)
 exact qE ⟨rfl, rfl, rfl⟩
theorem sorted_spec (ρ : Hp) (a : Option Addr) (n c : Nat) (m : List Nat) (h : SIn ρ Yr a n m) (hn : n ≤ 8) :
  Spec Tryz.prog 154 [.slice a n c] ρ [] (fun v ρ' L' => v = .bool (sortB m) ∧ ρ' = ρ ∧ L' = []) := by
 have hl := h.len
 refine Zd Tryz.func154 rfl rfl rfl fun u R => ?_
 simp only [Zo, List.cons_append, List.nil_append]
 repeat' (first | refine zV ?_ | intro _)
 refine Zq [(0, _)] (fun (ζ : (Nat) × (Int)) => [(3, .int .i64 ζ.2), (2, .bool false)]) (fun (ζ : (Nat) × (Int)) => ρ) (fun (ζ : (Nat) × (Int)) => []) (fun (ζ : (Nat) × (Int)) => ζ.2 = (n : Int) - 1 - ζ.1 ∧ (∀ j, n - ζ.1 ≤ j → j < n → j = 0 ∨ m.getD (j - 1) 0 ≤ m.getD j 0) ∧ ζ.1 ≤ n) (fun (ζ : (Nat) × (Int)) => n + 1 - ζ.1) ((0, (n : Int) - 1)) (⟨by omega, fun j h1 h2 => by omega, Nat.zero_le _⟩) Ze Ze rfl tk ?_
 rintro ⟨k, i⟩ hI
 try simp only [List.cons_append, List.nil_append, List.append_assoc, List.append_eq] at hI ⊢
 try dsimp only at hI ⊢
 obtain ⟨rfl, hok, hk⟩ := hI
 by_cases hlt : k + 1 < n
 ·obtain ⟨b, off, C, T, fr, rfl, hb, hc⟩ := h.get (show n - 1 - k < m.length by omega)
  obtain ⟨b2, off2, C2, T2, fr2, f1, hb2, hc2⟩ := h.get (show n - 1 - k - 1 < m.length by omega)
  cases f1
  rw [hb] at hb2
  cases hb2
  have e1 : ((n : Int) - 1 - k).toNat = n - 1 - k := by omega
  have e2 : ((n : Int) - 1 - k - 1).toNat = n - 1 - k - 1 := by omega
  have g1 : m.getD (n - 1 - k) 0 = m[n - 1 - k]'(by omega) := XM (by omega)
  have g2 : m.getD (n - 1 - k - 1) 0 = m[n - 1 - k - 1]'(by omega) := XM (by omega)
  have hkey : sortB m = true → m.getD (n - 1 - k - 1) 0 ≤ m.getD (n - 1 - k) 0 := fun e => by
   have := List.all_eq_true.1 e (n - 1 - k) (List.mem_range.2 (by omega))
   have := of_decide_eq_true this
   omega
  generalize m[n - 1 - k]'(by omega) = y at *
  generalize m[n - 1 - k - 1]'(by omega) = x at *
  rw [← e1] at hc
  rw [← e2] at hc2
  by_cases hyx : (y : Int) < (x : Int)
  ·have hs : sortB m = false := by
    cases e : sortB m with
    | false => rfl
    | true => have := hkey e; omega
   have hd : decide ((y : Int) < (x : Int)) = true := decide_eq_true hyx
   rw [hs]
   repeat' (first | refine zV ?_ | intro _)
   refine Zu (Zk _ _ ([])) (Zw (hT := tk) (Hp.le_refl _)) ?_
   all_goals (refine Zx 0 ?_; refine Zx 1 ?_; refine rIa 2 ?_; refine ZQ 3 ?_; refine Zx 4 ?_; refine Zx 5 ?_; refine rSb 6 ?_; refine rIa 7 ?_; refine ZQ 8 ?_)
   all_goals (refine Zj (i := 9) ?_; ((try refine Zh ?_); (first | (refine Zc (.func 182) ?_; refine qC rfl rfl (lessU64_spec _ _ _) ?_; rintro v ρ' L' hle ⟨rfl, rfl, rfl⟩ <;> (try simp only [kM, kN, kO, hd])) | (refine ZF ?_; try intro _)) <;> ((try simp only [kM, kN, kO]); refine Zf ?_; refine Zi ?_)))
   all_goals refine Zv ?_
   repeat' (first | refine zV ?_ | intro _)
   exact qE ⟨rfl, rfl, rfl⟩
  ·have hd : decide ((y : Int) < (x : Int)) = false := decide_eq_false hyx
   have hok2 : ∀ j, n - (k + 1) ≤ j → j < n → j = 0 ∨ m.getD (j - 1) 0 ≤ m.getD j 0 := fun j h1 h2 => by
    by_cases e : j = n - 1 - k
    ·right; rw [e]; omega
    ·exact hok j (by omega) h2
   repeat' (first | refine zV ?_ | intro _)
   refine Zu (Zk _ _ ([])) (Zw (hT := tk) (Hp.le_refl _)) ?_
   all_goals (refine Zx 0 ?_; refine Zx 1 ?_; refine rIa 2 ?_; refine ZQ 3 ?_; refine Zx 4 ?_; refine Zx 5 ?_; refine rSb 6 ?_; refine rIa 7 ?_; refine ZQ 8 ?_)
   all_goals (refine Zj (i := 9) ?_; ((try refine Zh ?_); (first | (refine Zc (.func 182) ?_; refine qC rfl rfl (lessU64_spec _ _ _) ?_; rintro v ρ' L' hle ⟨rfl, rfl, rfl⟩ <;> (try simp only [kM, kN, kO, hd])) | (refine ZF ?_; try intro _)) <;> ((try simp only [kM, kN, kO]); refine Zf ?_; refine Zi ?_)))
   all_goals refine Zv ?_
   repeat' (first | refine zV ?_ | intro _)
   refine Zg (k + 1, (n : Int) - 1 - k - 1) (⟨by omega, hok2, by omega⟩) Ze Ze rfl tk inferInstance (by first | omega | (dsimp only; omega))
 ·have hs : sortB m = true := List.all_eq_true.2 (fun i hi => by
   have := List.mem_range.1 hi
   apply decide_eq_true
   by_cases e : i = 0
   ·exact .inl e
   ·exact hok i (by omega) (by omega))
  rw [hs]
  repeat' (first | refine zV ?_ | intro _)
  exact qE ⟨rfl, rfl, rfl⟩
theorem marks_spec (ρ : Hp) (x : Tx) (h : Tx.In ρ x) : Spec Tryz.prog 105 [.agg ⟨Yk x⟩] ρ [] (fun v ρ' L' => v = .bool (WH x) ∧ ρ' = ρ ∧ L' = []) := by
 have hl := h.m.len
 have hb := h.mb
 have hs := fun h8 => sorted_spec ρ x.mv.a x.mv.n x.mv.c x.marks h.m h8
 unfold WH
 rw [hl]
 refine Zd Tryz.func105 rfl rfl rfl fun u R => ?_
 simp only [Zo, List.cons_append, List.nil_append]
 by_cases h0 : x.mv.n = 0
 ·rw [decide_eq_true h0, Bool.true_or]
  repeat' (first | refine zV ?_ | intro _)
  exact qE ⟨rfl, rfl, rfl⟩
 ·rw [decide_eq_false h0, Bool.false_or]
  obtain ⟨b, off, C, T, fr, e1, hb1, hc1⟩ := h.m.get (show 0 < x.marks.length by omega)
  obtain ⟨b2, off2, C2, T2, fr2, f1, hb2, hc2⟩ := h.m.get (show x.mv.n - 1 < x.marks.length by omega)
  rw [e1] at f1 hs
  cases f1
  rw [hb1] at hb2
  cases hb2
  have g1 : x.marks.getD 0 0 = x.marks[0]'(by omega) := XM (by omega)
  have g2 : x.marks.getD (x.mv.n - 1) 0 = x.marks[x.mv.n - 1]'(by omega) := XM (by omega)
  rw [g1, g2]
  generalize x.marks[0]'(by omega) = y at *
  generalize x.marks[x.mv.n - 1]'(by omega) = z at *
  have e2 : ((x.mv.n : Int) - 1).toNat = x.mv.n - 1 := by omega
  rw [← e2] at hc2
  by_cases h8 : x.mv.n ≤ 8
  ·have hs8 := hs h8
   generalize sortB x.marks = q at *
   have e3 : Value.slice x.mv.a x.mv.n x.mv.c = Value.slice (some ⟨b, off, none⟩) x.mv.n x.mv.c := by rw [e1]
   rw [show Yk x = [.int .i64 x.num, .int .i64 x.state, .int .u64 x.first, .int .u64 x.last, .int .u64 x.undo, .slice x.sv.a x.sv.n x.sv.c, .slice (some ⟨b, off, none⟩) x.mv.n x.mv.c] by rw [← e1]]
   repeat' (first | refine zV ?_ | intro _)
   refine Zu (Zk _ _ _) Zp ?_
   all_goals (refine ZN 0 ?_; refine ZQ 1 ?_; refine rCm 2 ?_; refine Zx 3 ?_)
   all_goals (first | refine Zb 4 ?_ | refine Za 4 ?_ | refine ZI 4 ?_ | (refine Zn (t := 12) rfl (fun hb => ?_) (fun hb => ?_) <;> (try simp only [kk] at hb) <;> first | refine Zb 4 ?_ | refine Za 4 ?_ | refine ZI 4 ?_))
   all_goals ((first | refine Zb 5 ?_ | refine Za 5 ?_ | refine Yg 5 ?_); refine Yj 6 ?_; refine Zx 7 ?_)
   all_goals (first | refine Zb 8 ?_ | refine Za 8 ?_ | refine ZE 8 ?_ | (refine Zn (t := 16) rfl (fun hb => ?_) (fun hb => ?_) <;> (try simp only [kk] at hb) <;> first | refine Zb 8 ?_ | refine Za 8 ?_ | refine ZE 8 ?_))
   all_goals (first | refine Zb 9 ?_ | refine Za 9 ?_ | refine ZL 9 ?_)
   all_goals (first | refine Zb 10 ?_ | refine Za 10 ?_ | (refine Zj (i := 10) ?_; ((try refine Zh ?_); (first | (refine Zc (.func 154) ?_; refine qC rfl rfl (hs8) ?_; rintro v ρ' L' hle ⟨rfl, rfl, rfl⟩ <;> (try simp only [kM, kN, kO])) | (refine ZF ?_; try intro _)) <;> ((try simp only [kM, kN, kO]); refine Zf ?_; refine Zi ?_))))
   all_goals (refine Zz ?_; refine Yj 11 ?_; refine Zx 12 ?_)
   all_goals (first | refine Zb 13 ?_ | refine Za 13 ?_ | refine ZE 13 ?_ | (refine Zn (t := 21) rfl (fun hb => ?_) (fun hb => ?_) <;> (try simp only [kk] at hb) <;> first | refine Zb 13 ?_ | refine Za 13 ?_ | refine ZE 13 ?_))
   all_goals ((first | refine Zb 14 ?_ | refine Za 14 ?_ | refine ZL 14 ?_); (first | refine Zb 15 ?_ | refine Za 15 ?_ | refine wIa 15 ?_); (first | refine Zb 16 ?_ | refine Za 16 ?_ | refine ZL 16 ?_); (first | refine Zb 17 ?_ | refine Za 17 ?_ | refine ZE 17 ?_); (first | refine Zb 18 ?_ | refine Za 18 ?_ | refine ZL 18 ?_); (first | refine Zb 19 ?_ | refine Za 19 ?_ | refine Yg 19 ?_); refine Yj 20 ?_; refine Zx 21 ?_)
   all_goals (first | refine Zb 22 ?_ | refine Za 22 ?_ | refine ZE 22 ?_ | (refine Zn (t := 30) rfl (fun hb => ?_) (fun hb => ?_) <;> (try simp only [kk] at hb) <;> first | refine Zb 22 ?_ | refine Za 22 ?_ | refine ZE 22 ?_))
   all_goals ((first | refine Zb 23 ?_ | refine Za 23 ?_ | refine ZL 23 ?_); (first | refine Zb 24 ?_ | refine Za 24 ?_ | refine ZI 24 ?_); (first | refine Zb 25 ?_ | refine Za 25 ?_ | refine wSb 25 ?_); (first | refine Zb 26 ?_ | refine Za 26 ?_ | refine wIa 26 ?_); (first | refine Zb 27 ?_ | refine Za 27 ?_ | refine ZL 27 ?_); (first | refine Zb 28 ?_ | refine Za 28 ?_ | refine ZE 28 ?_); (first | refine Zb 29 ?_ | refine Za 29 ?_ | refine ZL 29 ?_); (first | refine Zb 30 ?_ | refine Za 30 ?_ | refine Yg 30 ?_); refine Yj 31 ?_; refine rAs 32 ?_; refine Zv ?_)
   all_goals (repeat' (first | refine zV ?_ | intro _))
   all_goals (refine qF (L' := []) ?_; exact ⟨Ym (by (try simp [*]); first | done | omega | (intros; omega) | (constructor <;> intros <;> (try simp_all) <;> omega)), rfl, rfl⟩)
  ·repeat' (first | refine zV ?_ | intro _)
   refine Zu (Zk _ _ _) Zp ?_
   all_goals (refine ZN 0 ?_; refine ZQ 1 ?_; refine rCm 2 ?_; refine Zx 3 ?_)
   all_goals (first | refine Zb 4 ?_ | refine Za 4 ?_ | refine ZI 4 ?_ | (refine Zn (t := 12) rfl (fun hb => ?_) (fun hb => ?_) <;> (try simp only [kk] at hb) <;> first | refine Zb 4 ?_ | refine Za 4 ?_ | refine ZI 4 ?_))
   all_goals ((first | refine Zb 5 ?_ | refine Za 5 ?_ | refine Yg 5 ?_); refine Yj 6 ?_; refine Zx 7 ?_)
   all_goals (first | refine Zb 8 ?_ | refine Za 8 ?_ | refine ZE 8 ?_ | (refine Zn (t := 16) rfl (fun hb => ?_) (fun hb => ?_) <;> (try simp only [kk] at hb) <;> first | refine Zb 8 ?_ | refine Za 8 ?_ | refine ZE 8 ?_))
   all_goals (first | refine Zb 9 ?_ | refine Za 9 ?_ | refine ZL 9 ?_)
   all_goals (first | refine Zb 10 ?_ | refine Za 10 ?_ | (refine Zj (i := 10) ?_; ((try refine Zh ?_); (first | (refine ZF ?_; try intro _)) <;> ((try simp only [kM, kN, kO]); refine Zf ?_; refine Zi ?_))))
   all_goals (refine Zz ?_; refine Yj 11 ?_; refine Zx 12 ?_)
   all_goals (first | refine Zb 13 ?_ | refine Za 13 ?_ | refine ZE 13 ?_ | (refine Zn (t := 21) rfl (fun hb => ?_) (fun hb => ?_) <;> (try simp only [kk] at hb) <;> first | refine Zb 13 ?_ | refine Za 13 ?_ | refine ZE 13 ?_))
   all_goals ((first | refine Zb 14 ?_ | refine Za 14 ?_ | refine ZL 14 ?_); (first | refine Zb 15 ?_ | refine Za 15 ?_ | refine wIa 15 ?_); (first | refine Zb 16 ?_ | refine Za 16 ?_ | refine ZL 16 ?_); (first | refine Zb 17 ?_ | refine Za 17 ?_ | refine ZE 17 ?_); (first | refine Zb 18 ?_ | refine Za 18 ?_ | refine ZL 18 ?_); (first | refine Zb 19 ?_ | refine Za 19 ?_ | refine Yg 19 ?_); refine Yj 20 ?_; refine Zx 21 ?_)
   all_goals (first | refine Zb 22 ?_ | refine Za 22 ?_ | refine ZE 22 ?_ | (refine Zn (t := 30) rfl (fun hb => ?_) (fun hb => ?_) <;> (try simp only [kk] at hb) <;> first | refine Zb 22 ?_ | refine Za 22 ?_ | refine ZE 22 ?_))
   all_goals ((first | refine Zb 23 ?_ | refine Za 23 ?_ | refine ZL 23 ?_); (first | refine Zb 24 ?_ | refine Za 24 ?_ | refine ZI 24 ?_); (first | refine Zb 25 ?_ | refine Za 25 ?_ | refine wSb 25 ?_); (first | refine Zb 26 ?_ | refine Za 26 ?_ | refine wIa 26 ?_); (first | refine Zb 27 ?_ | refine Za 27 ?_ | refine ZL 27 ?_); (first | refine Zb 28 ?_ | refine Za 28 ?_ | refine ZE 28 ?_); (first | refine Zb 29 ?_ | refine Za 29 ?_ | refine ZL 29 ?_); (first | refine Zb 30 ?_ | refine Za 30 ?_ | refine Yg 30 ?_); refine Yj 31 ?_; refine rAs 32 ?_; refine Zv ?_)
   all_goals (repeat' (first | refine zV ?_ | intro _))
   all_goals (refine qF (L' := []) ?_; exact ⟨Ym (by (try simp [*]); first | done | omega | (intros; omega) | (constructor <;> intros <;> (try simp_all) <;> omega)), rfl, rfl⟩)
theorem stack_spec (ρ : Hp) (x : Tx) (h : Tx.In ρ x) : Spec Tryz.prog 104 [.agg ⟨Yk x⟩] ρ [] (fun v ρ' L' => v = .bool (Wp x.undo x.first x.stack) ∧ ρ' = ρ ∧ L' = []) := by
 have hl := h.s.len
 have hn := h.sb
 have hA := h.s
 generalize hq : Wp x.undo x.first x.stack = q
 refine Zd Tryz.func104 rfl rfl rfl fun u R => ?_
 simp only [Zo, List.cons_append, List.nil_append]
 repeat' (first | refine zV ?_ | intro _)
 rename_i bx
 refine Zq [(1, _), (9, _), (10, _)] (fun (ζ : (Nat) × (Nat)) => [(11, .int .i64 ζ.1), (2, .bool false), (3, .int .u64 ζ.2)]) (fun (ζ : (Nat) × (Nat)) => ρ) (fun (ζ : (Nat) × (Nat)) => [[(bx, .cells ⟨Yk x⟩ 45 (0, 0))]]) (fun (ζ : (Nat) × (Nat)) => ζ.1 ≤ x.sv.n ∧ Wp x.undo ζ.2 (x.stack.drop ζ.1) = q) (fun (ζ : (Nat) × (Nat)) => x.sv.n - ζ.1) ((0, x.first)) (⟨Nat.zero_le _, hq⟩) Ze Ze rfl tk ?_
 rintro ⟨k, last⟩ hI
 try simp only [List.cons_append, List.nil_append, List.append_assoc, List.append_eq] at hI ⊢
 try dsimp only at hI ⊢
 obtain ⟨hk, hok⟩ := hI
 by_cases hlt : k < x.sv.n
 ·obtain ⟨b, off, C, T, fr, e1, hb, hfit, hc⟩ := hA.get (show k < x.stack.length by omega)
  rw [List.drop_eq_getElem_cons (show k < x.stack.length by omega), Wp] at hok
  generalize x.stack[k]'(by omega) = y at *
  rw [e1]
  by_cases hy : last < y.lsn ∧ y.lsn ≤ x.undo ∧ 1 ≤ y.cost ∧ y.cost ≤ 400
  ·rw [decide_eq_true hy, Bool.true_and] at hok
   repeat' (first | refine zV ?_ | intro _)
   rw [← e1]
   refine Zg (k + 1, y.lsn) (⟨hlt, hok⟩) Ze Ze rfl tk inferInstance (by first | omega | (dsimp only; omega))
  ·rw [decide_eq_false hy, Bool.false_and] at hok
   subst hok
   repeat' (first | refine zV ?_ | (refine YL ?_; refine ZB rfl rfl (fun hb => ?_) (fun hb => ?_) <;> (try simp only [decide_eq_true_eq, decide_eq_false_iff_not, Bool.not_eq_true, Bool.not_eq_false, beq_iff_eq, bne_iff_ne, ne_eq, decide_eq_decide, Bool.not_eq_eq_eq_not, Bool.not_true, Bool.not_false, beq_eq_false_iff_ne, bne_eq_false_iff_eq, Bool.and_eq_true, Bool.or_eq_true, Bool.and_eq_false_imp, Bool.or_eq_false_iff, bq2, bqt, bqf] at hb)) | (refine ZS ?_; refine ZM rfl (fun hb => ?_) (fun hb => ?_) <;> (try simp only [decide_eq_true_eq, decide_eq_false_iff_not, Bool.not_eq_true, Bool.not_eq_false, beq_iff_eq, bne_iff_ne, ne_eq, decide_eq_decide, Bool.not_eq_eq_eq_not, Bool.not_true, Bool.not_false, beq_eq_false_iff_ne, bne_eq_false_iff_eq, Bool.and_eq_true, Bool.or_eq_true, Bool.and_eq_false_imp, Bool.or_eq_false_iff, bq2, bqt, bqf] at hb)) | intro _)
   all_goals first | exact qE ⟨rfl, rfl, rfl⟩ | (exfalso; omega)
 ·have hk2 : k = x.stack.length := by omega
  rw [hk2, List.drop_length, Wp] at hok
  subst hok
  repeat' (first | refine zV ?_ | intro _)
  exact qE ⟨rfl, rfl, rfl⟩
end Go.Proofs.E
