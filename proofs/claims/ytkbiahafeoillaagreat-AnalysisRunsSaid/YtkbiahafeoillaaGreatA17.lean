/- Laws of analysis. Part 17 of 41. -/
import Derived.Test.YtkbiahafeoillaaGreatA16
namespace Go.Proofs.E
open Go
set_option linter.unusedVariables false
set_option linter.unusedSimpArgs false
set_option linter.unusedSectionVars false
set_option maxRecDepth 4000
set_option maxHeartbeats 1000000
attribute [local irreducible] Yl TL TC TE Spec Xb R1 Hp.le EnvLe TS TR YS Zk
instance (priority := 1200) eqCkP {x y : Yq} : EqC Tryz.prog 8 92 (.agg ⟨YG x⟩) (.agg ⟨YG y⟩) (decide (x = y)) := by
 have h : EqC Tryz.prog 8 92 (.agg ⟨[.int .i64 x.page, .int .u64 x.since]⟩) (.agg ⟨[.int .i64 y.page, .int .u64 y.since]⟩) _ := inferInstance
 refine ⟨fun d w hd => ?_⟩
 rw [h.out d w hd]
 congr 1
 obtain ⟨t, i⟩ := x
 obtain ⟨t', i'⟩ := y
 simp only [Yq.mk.injEq, Bool.and_true, Bool.decide_and]
 have e : ((i : Int) == (i' : Int)) = decide (i = i') := by
  by_cases h : i = i'
  ·subst h; simp
  ·rw [decide_eq_false h]; simp only [beq_eq_false_iff_ne, ne_eq]; omega
 rw [e]
 by_cases h1 : t = t' <;> by_cases h2 : i = i' <;> simp [h1, h2]
theorem same22_spec (ρ : Hp) (s s' : SV) (l m : List Yq) (h : AS ρ 2 YG s l) (h' : AS ρ 2 YG s' m) :
  Spec Tryz.prog 62 [.slice s.a s.n s.c, .slice s'.a s'.n s'.c] ρ [] (fun v ρ' L' => v = .bool (decide (l = m)) ∧ ρ' = ρ ∧ L' = []) := by
 have hl := h.at'.len
 have hm := h'.at'.len
 have hn := h.big
 refine Zd Tryz.func62 rfl rfl rfl fun u R => ?_
 simp only [Zo, List.cons_append, List.nil_append]
 by_cases hne : s.n = s'.n
 ·repeat' (first | refine zV ?_ | intro _)
  refine Zq [(0, _), (1, _), (12, _)] (fun (ζ : (Nat)) => [(13, .int .i64 ζ), (4, .bool false)]) (fun (ζ : (Nat)) => ρ) (fun (ζ : (Nat)) => []) (fun (ζ : (Nat)) => ζ ≤ s.n ∧ l.take ζ = m.take ζ) (fun (ζ : (Nat)) => s.n - ζ) (0) (⟨Nat.zero_le _, rfl⟩) Ze Ze rfl tk ?_
  rintro k hI
  try simp only [List.cons_append, List.nil_append, List.append_assoc, List.append_eq] at hI ⊢
  try dsimp only at hI ⊢
  obtain ⟨hk, hpre⟩ := hI
  by_cases hlt : k < s.n
  ·obtain ⟨b, off, C, T, fr, f1, hb, hfit, hc⟩ := h.at'.get (show k < l.length by omega)
   obtain ⟨b2, off2, C2, T2, fr2, f2, hb2, hfit2, hc2⟩ := h'.at'.get (show k < m.length by omega)
   have ht1 := List.take_succ_eq_append_getElem (show k < l.length by omega)
   have ht2 := List.take_succ_eq_append_getElem (show k < m.length by omega)
   have hf : l = m → l[k]'(by omega) = m[k]'(by omega) := fun e => by subst e; rfl
   generalize l[k]'(by omega) = x at *
   generalize m[k]'(by omega) = y at *
   rw [f1, f2]
   by_cases he : x = y
   ·have hd : decide (x = y) = true := decide_eq_true he
    have hpre2 : l.take (k + 1) = m.take (k + 1) := by rw [ht1, ht2, hpre, he]
    repeat' (first | refine zV ?_ | intro _)
    refine Zu (Zk _ _ _) Zp ?_
    all_goals (refine Zx 0 ?_; refine Zz ?_; refine Zx 1 ?_; refine rIa 2 ?_; refine ZQ 3 ?_; refine Zx 4 ?_; refine Zx 5 ?_; refine rIa 6 ?_; refine ZQ 7 ?_; refine rCm 8 ?_; refine Zv ?_)
    all_goals (try simp only [hd])
    all_goals (repeat' (first | refine zV ?_ | intro _))
    all_goals rw [← f1, ← f2]
    all_goals refine Zg (k + 1) (⟨hlt, hpre2⟩) Ze Ze rfl tk inferInstance (by first | omega | (dsimp only; omega))
   ·have hd : decide (x = y) = false := decide_eq_false he
    rw [decide_eq_false (fun e => he (hf e))]
    repeat' (first | refine zV ?_ | intro _)
    refine Zu (Zk _ _ _) Zp ?_
    all_goals (refine Zx 0 ?_; refine Zz ?_; refine Zx 1 ?_; refine rIa 2 ?_; refine ZQ 3 ?_; refine Zx 4 ?_; refine Zx 5 ?_; refine rIa 6 ?_; refine ZQ 7 ?_; refine rCm 8 ?_; refine Zv ?_)
    all_goals (try simp only [hd])
    all_goals (repeat' (first | refine zV ?_ | intro _))
    all_goals exact qE (L' := []) ⟨rfl, rfl, rfl⟩
  ·have hk2 : k = s.n := by omega
   subst hk2
   rw [List.take_of_length_le (by omega), List.take_of_length_le (by omega)] at hpre
   rw [decide_eq_true hpre]
   repeat' (first | refine zV ?_ | intro _)
   exact qE ⟨rfl, rfl, rfl⟩
 ·rw [decide_eq_false (fun e : l = m => hne (by rw [← hl, ← hm, e]))]
  repeat' (first | refine zV ?_ | intro _)
  exact qE ⟨rfl, rfl, rfl⟩
def pgF (g : Int → Option Nat) : Nat → Int → List Yq
 | 0, _ => []
 | m + 1, p => (match g p with | some v => [⟨p, v⟩] | none => []) ++ pgF g m (p + 1)
def touchG (d : List Yq) (r : Rc) (p : Int) : Option Nat := if 0 < recN p d then some (recN p d) else if (r.ims.find? (fun x => decide (x.page = p))).isSome then some r.lsn else none
theorem touch22_spec (ρ : Hp) (s : SV) (l : List Yq) (h : AS ρ 2 YG s l) (v : RV) (r : Rc) (hr : RcIn ρ v r) :
  Spec Tryz.prog 121 [.slice s.a s.n s.c, .agg ⟨Yx v r⟩] ρ [] (fun z ρ' L' => ρ.le ρ' ∧ ∃ s' : SV, z = .slice s'.a s'.n s'.c ∧ AS ρ' 2 YG s' (pgF (touchG l r) 64 0) ∧ L' = []) := by
 generalize hq : pgF (touchG l r) 64 0 = q
 refine Zd Tryz.func121 rfl rfl rfl fun u R => ?_
 simp only [Zo, List.cons_append, List.nil_append]
 repeat' (first | refine zV ?_ | intro _)
 rename_i rb
 refine Zq [(0, _), (3, _), (4, _)] (fun (ζ : (Nat) × (Value) × (List Value) × (List Yq)) => [(10, .int .i64 ζ.1), (5, ζ.2.1)]) (fun (ζ : (Nat) × (Value) × (List Value) × (List Yq)) => ρ) (fun (ζ : (Nat) × (Value) × (List Value) × (List Yq)) => [recC rb v r, ZG ζ.2.1 (Yy ζ.2.2.2) ζ.2.2.1 92]) (fun (ζ : (Nat) × (Value) × (List Value) × (List Yq)) => ζ.1 ≤ 64 ∧ OwnS ζ.2.1 ζ.2.2.2.length (Yy ζ.2.2.2) ζ.2.2.1 2 ∧ ζ.2.2.2.length ≤ ζ.1 ∧ ζ.2.2.2 ++ pgF (touchG l r) (64 - ζ.1) ζ.1 = q) (fun (ζ : (Nat) × (Value) × (List Value) × (List Yq)) => 64 - ζ.1) ((0, .slice none 0 0, [], [])) (⟨by decide, OwnS.nil 2, Nat.le_refl _, hq⟩) Ze Ze rfl tk ?_
 rintro ⟨k, vv, sp, acc⟩ hI
 try simp only [List.cons_append, List.nil_append, List.append_assoc, List.append_eq] at hI ⊢
 try dsimp only at hI ⊢
 obtain ⟨hk, hown, hal, hok⟩ := hI
 by_cases hlt : k < 64
 ·have hre := redoes12_spec ρ v r hr k
  have hrc := rec22_spec ρ s l h k
  have hone : (contO (r.ims.find? (fun x => decide (x.page = (k : Int))))).all (·.oneCell') = true := by unfold contO; split <;> rfl
  have hlen3 : (contO (r.ims.find? (fun x => decide (x.page = (k : Int))))).length = 3 := by unfold contO; split <;> rfl
  rw [show 64 - k = (64 - (k + 1)) + 1 by omega, pgF, touchG] at hok
  generalize contO (r.ims.find? (fun x => decide (x.page = (k : Int)))) = co at *
  generalize (r.ims.find? (fun x => decide (x.page = (k : Int)))).isSome = b1 at *
  obtain ⟨c0, c1, c2, rfl⟩ : ∃ c0 c1 c2, co = [c0, c1, c2] := by
   match co, hlen3 with
   | [c0, c1, c2], _ => exact ⟨c0, c1, c2, rfl⟩
  have hcast : ((k + 1 : Nat) : Int) = (k : Int) + 1 := by omega
  generalize recN k l = n at *
  obtain ⟨va, vc, rfl, hvc⟩ := hown.slice
  have happ : ∀ p : Yq, Yy acc ++ YG p = Yy (acc ++ [p]) := fun p => by simp [Yy]
  by_cases hn : 0 < n
  ·rw [if_pos hn] at hok
   simp only [List.append_assoc] at hok
   repeat' (first | (refine Zc (.func 157) ?_; refine qC rfl rfl (hre) ?_; rintro v ρ' L' hle ⟨rfl, rfl, rfl⟩ <;> (try simp only [kM, kN, kO])) | (refine Zc (.func 158) ?_; refine qC rfl rfl (hrc) ?_; rintro v ρ' L' hle ⟨rfl, rfl, rfl⟩ <;> (try simp only [kM, kN, kO])) | refine zV ?_ | intro _)
   refine ZH (css := [YG ⟨k, n⟩]) (sz := 2) rfl rfl rfl rfl (by simp) (by simp) rfl (fun bs => ?_)
   simp only [List.flatten_cons, List.flatten_nil, List.append_nil]
   refine ZZ (ys := YG ⟨k, n⟩) (m := 1) rfl rfl hown (hR := by infer_instance) (SrcV.lit) rfl rfl (by decide) rfl (by omega) (by omega) rfl (fun v' sp' hown' => ?_)
   rw [happ] at hown' ⊢
   rw [show acc.length + 1 = (acc ++ [(⟨k, n⟩ : Yq)]).length by simp] at hown'
   repeat' (first | refine zV ?_ | intro _)
   refine Zg (k + 1, v', sp', acc ++ [⟨k, n⟩]) (⟨hlt, hown', by simp; omega, by dsimp only; rw [hcast, List.append_assoc]; exact hok⟩) Ze Ze rfl tk inferInstance (by first | omega | (dsimp only; omega))
  ·rw [if_neg hn] at hok
   cases b1
   ·simp only [Bool.false_eq_true, if_false, List.nil_append] at hok
    repeat' (first | (refine Zc (.func 157) ?_; refine qC rfl rfl (hre) ?_; rintro v ρ' L' hle ⟨rfl, rfl, rfl⟩ <;> (try simp only [kM, kN, kO])) | (refine Zc (.func 158) ?_; refine qC rfl rfl (hrc) ?_; rintro v ρ' L' hle ⟨rfl, rfl, rfl⟩ <;> (try simp only [kM, kN, kO])) | refine zV ?_ | intro _)
    refine Zg (k + 1, _, sp, acc) (⟨hlt, hown, by dsimp only; omega, by dsimp only; rw [hcast]; exact hok⟩) Ze Ze rfl tk inferInstance (by first | omega | (dsimp only; omega))
   ·simp only [if_true] at hok
    repeat' (first | (refine Zc (.func 157) ?_; refine qC rfl rfl (hre) ?_; rintro v ρ' L' hle ⟨rfl, rfl, rfl⟩ <;> (try simp only [kM, kN, kO])) | (refine Zc (.func 158) ?_; refine qC rfl rfl (hrc) ?_; rintro v ρ' L' hle ⟨rfl, rfl, rfl⟩ <;> (try simp only [kM, kN, kO])) | refine zV ?_ | intro _)
    refine ZH (css := [YG ⟨k, r.lsn⟩]) (sz := 2) rfl rfl rfl rfl (by simp) (by simp) rfl (fun bs => ?_)
    simp only [List.flatten_cons, List.flatten_nil, List.append_nil]
    refine ZZ (ys := YG ⟨k, r.lsn⟩) (m := 1) rfl rfl hown (hR := by infer_instance) (SrcV.lit) rfl rfl (by decide) rfl (by omega) (by omega) rfl (fun v' sp' hown' => ?_)
    rw [happ] at hown' ⊢
    rw [show acc.length + 1 = (acc ++ [(⟨k, r.lsn⟩ : Yq)]).length by simp] at hown'
    repeat' (first | refine zV ?_ | intro _)
    refine Zg (k + 1, v', sp', acc ++ [⟨k, r.lsn⟩]) (⟨hlt, hown', by simp; omega, by dsimp only; rw [hcast, List.append_assoc]; exact hok⟩) Ze Ze rfl tk inferInstance (by first | omega | (dsimp only; omega))
 ·obtain rfl : k = 64 := by omega
  rw [show 64 - 64 = 0 by rfl, pgF, List.append_nil] at hok
  subst hok
  repeat' (first | refine zV ?_ | intro _)
  refine ZY (ZG vv (Yy acc) sp 92) (fun ρ3 hle3 hfz => ?_)
  obtain ⟨sa, sc, f1, hsc, hA2⟩ := hown.aIn rfl (fun x _ => WE x) hfz
  subst f1
  exact qE (L' := []) ⟨hle3, ⟨sa, acc.length, sc⟩, rfl, ⟨hA2, by dsimp only; omega, hsc⟩, rfl⟩
end Go.Proofs.E
namespace Go.Proofs.E
open Go Go.RowKit
set_option linter.unusedVariables false
set_option linter.unusedSimpArgs false
set_option linter.unusedSectionVars false
set_option maxRecDepth 8000
theorem rsw_flat {α : Type} {sz : Nat} {g : α → List Value} {C : List Value} {off : Nat} : ∀ (l : List α) (k : Nat), k ≤ l.length → (∀ i (h : i < l.length), (C.drop (off + i * sz)).take sz = g l[i]) → (C.drop off).take (k * sz) = ((l.take k).map g).flatten
 | l, 0, _, _ => by simp
 | l, k + 1, hk, h => by
  have ih := rsw_flat l k (by omega) h
  rw [show l.take (k + 1) = l.take k ++ [l[k]'(by omega)] from List.take_succ_eq_append_getElem (by omega), Nat.add_mul, Nat.one_mul, List.take_add, ih, List.drop_drop, h k (by omega)]
  simp only [List.map_append, List.flatten_append, List.map_cons, List.map_nil, List.flatten_cons, List.flatten_nil, List.append_nil]
theorem Wt {ρ : Hp} {α : Type} {sz : Nat} {g : α → List Value} {P : α → Prop} {cs : List Value} {s : Option Addr × Nat × Nat × List α} (hg : ∀ x, (g x).length = sz) (h : RS ρ sz (fun cs x => cs = g x ∧ P x) cs s) : AIn ρ sz g s.1 s.2.1 s.2.2.2 ∧ (∀ x ∈ s.2.2.2, P x) ∧ s.2.1 ≤ s.2.2.1 ∧ s.2.1 ≤ 9223372036854775807 := by
 obtain ⟨a, n, c, ks⟩ := s
 obtain ⟨h1, h2, h3, h4, h5⟩ := h
 dsimp only at h1 h2 h3 h4 h5 ⊢
 refine ⟨⟨h4, ?_, fun x _ => hg x⟩, fun x hx => ?_, h2, by omega⟩
 ·by_cases h0 : n = 0
  ·exact .inl h0
  ·right
   obtain ⟨b, off, C, T, fr, e1, e2, e3, e4⟩ := h5 0 (by omega)
   have same : ∀ i (h : i < ks.length), off + i * sz + sz ≤ C.length ∧ (C.drop (off + i * sz)).take sz = g ks[i] := fun i hi => by
    obtain ⟨b', off', C', T', fr', f1, f2, f3, f4⟩ := h5 i hi
    rw [e1] at f1
    cases f1
    rw [e2] at f2
    cases f2
    exact ⟨f3, f4.1⟩
   refine ⟨b, off, C, T, fr, e1, e2, ?_, ?_⟩
   ·have := (same (n - 1) (by omega)).1
    have e : n * sz = (n - 1) * sz + sz := by
     obtain ⟨m, rfl⟩ : ∃ m, n = m + 1 := ⟨n - 1, by omega⟩
     rw [Nat.add_mul]; simp
    omega
   ·have := rsw_flat (sz := sz) (g := g) ks n (by omega) (fun i hi => (same i hi).2)
    rw [this, List.take_of_length_le (by omega)]
 ·obtain ⟨i, hi, rfl⟩ := List.mem_iff_getElem.1 hx
  obtain ⟨_, _, _, _, _, _, _, _, f⟩ := h5 i hi
  exact f.2
section
variable {H : Type} {enc : TypeId × Value → H} {w : World}
theorem opnS_str : OpnS enc Tryz.prog w 9 (fun cs (l : List UInt8) => cs = [strV l]) := Opn.sized (fun fuel cs x h => by
 obtain ⟨s, rfl, _, _⟩ := DataW.trod_string Tryz.underlying9 h
 obtain ⟨⟨l⟩⟩ := s
 exact ⟨l, rfl⟩)
theorem opnS_key : OpnS enc Tryz.prog w 56 (fun cs (k : Int × Nat) => cs = keyV k.1 k.2 ∧ k.2 < 65536) := Opn.sized (fun fuel cs x h => by
 obtain ⟨hl, hf⟩ := opn_fields Tryz.underlying56 h
 have hl : cs.length = 2 := by rw [hl]; kernel_rfl
 obtain ⟨c0, c1, rfl⟩ : ∃ c0 c1, cs = [c0, c1] := by
  match cs, hl with
  | [c0, c1], _ => exact ⟨c0, c1, rfl⟩
 obtain ⟨t, h0, _⟩ := opn_field h Tryz.underlying56 0 0 1 rfl rfl rfl (by kernel_rfl) (Yp Tryz.underlying3)
 obtain ⟨i, h1, i0, i1⟩ := opn_field h Tryz.underlying56 1 1 1 rfl rfl rfl (by kernel_rfl) (Yp Tryz.underlying54)
 simp only [List.drop_zero, List.drop_succ_cons, List.take_succ_cons, List.take_zero, List.cons.injEq, and_true] at h0 h1
 subst h0; subst h1
 simp only [lo, hi] at i0 i1
 refine ⟨(t, i.toNat), ?_, by dsimp only; omega⟩
 have : ((i.toNat : Nat) : Int) = i := by omega
 simp only [keyV, this])
theorem opnS_row : OpnS enc Tryz.prog w 58 (fun cs (r : Row) => cs = rowV r ∧ RowFit r) := fun fuel cs x h hw => by
 obtain ⟨hl, hf⟩ := YJ Tryz.underlying58 h hw
 have hl : cs.length = 4 := by rw [hl]; kernel_rfl
 obtain ⟨c0, c1, c2, c3, rfl⟩ : ∃ c0 c1 c2 c3, cs = [c0, c1, c2, c3] := by
  match cs, hl with
  | [c0, c1, c2, c3], _ => exact ⟨c0, c1, c2, c3, rfl⟩
 obtain ⟨⟨t, i⟩, h0, hi0⟩ := Zy h hw Tryz.underlying58 0 0 2 rfl rfl rfl (by kernel_rfl) opnS_key
 obtain ⟨v, h1, v0, v1⟩ := Zy h hw Tryz.underlying58 1 2 1 rfl rfl rfl (by kernel_rfl) (Yp Tryz.underlying2).sized
 obtain ⟨s, h2⟩ := Zy h hw Tryz.underlying58 2 3 1 rfl rfl rfl (by kernel_rfl) opnS_str
 simp only [List.drop_zero, List.drop_succ_cons, List.take_succ_cons, List.take_zero, List.cons.injEq, and_true, keyV] at h0 h1 h2
 obtain ⟨rfl, rfl⟩ := h0
 subst h1; subst h2
 simp only [lo, hi] at v0 v1
 exact ⟨⟨t, i, v, s⟩, rfl, ⟨hi0, v0, v1⟩⟩
theorem opnS_kid : OpnS enc Tryz.prog w 230 (fun cs (k : Kid) => cs = kidV k ∧ k.id < 65536) := fun fuel cs x h hw => by
 obtain ⟨hl, hf⟩ := YJ Tryz.underlying230 h hw
 have hl : cs.length = 3 := by rw [hl]; kernel_rfl
 obtain ⟨c0, c1, c2, rfl⟩ : ∃ c0 c1 c2, cs = [c0, c1, c2] := by
  match cs, hl with
  | [c0, c1, c2], _ => exact ⟨c0, c1, c2, rfl⟩
 obtain ⟨⟨t, i⟩, h0, hi0⟩ := Zy h hw Tryz.underlying230 0 0 2 rfl rfl rfl (by kernel_rfl) opnS_key
 obtain ⟨v, h1, _⟩ := Zy h hw Tryz.underlying230 1 2 1 rfl rfl rfl (by kernel_rfl) (Yp Tryz.underlying3).sized
 simp only [List.drop_zero, List.drop_succ_cons, List.take_succ_cons, List.take_zero, List.cons.injEq, and_true, keyV] at h0 h1
 obtain ⟨rfl, rfl⟩ := h0
 subst h1
 exact ⟨⟨t, i, v⟩, rfl, hi0⟩
theorem opnS_cont : OpnS enc Tryz.prog w 98 (fun cs (x : CV × Cont) => cs = contV x.2.kind x.1 ∧ CW (hpOf w) x.1 x.2) := fun fuel cs x h hw => by
 obtain ⟨hl, hf⟩ := YJ Tryz.underlying98 h hw
 have hl : cs.length = 3 := by rw [hl]; kernel_rfl
 obtain ⟨c0, c1, c2, rfl⟩ : ∃ c0 c1 c2, cs = [c0, c1, c2] := by
  match cs, hl with
  | [c0, c1, c2], _ => exact ⟨c0, c1, c2, rfl⟩
 obtain ⟨k, h0, _⟩ := Zy h hw Tryz.underlying98 0 0 1 rfl rfl rfl (by kernel_rfl) (Yp Tryz.underlying3).sized
 obtain ⟨⟨ra, rn, rc, rows⟩, h1, w1⟩ := Zy h hw Tryz.underlying98 1 1 1 rfl rfl rfl (by kernel_rfl) (Xl (sz := 4) (by' := 40) Tryz.underlying95 (by kernel_rfl) (by decide) (by kernel_rfl) opnS_row)
 obtain ⟨⟨ka, kn, kc, kids⟩, h2, w2⟩ := Zy h hw Tryz.underlying98 2 2 1 rfl rfl rfl (by kernel_rfl) (Xl (sz := 3) (by' := 24) Tryz.underlying96 (by kernel_rfl) (by decide) (by kernel_rfl) opnS_kid)
 obtain ⟨g1, g2, g3, _⟩ := Wt rowV_len h1
 obtain ⟨k1, k2, k3, _⟩ := Wt kidV_len h2
 simp only [reachBytes] at w1 w2
 replace h1 := h1.cells
 replace h2 := h2.cells
 simp only [List.drop_zero, List.drop_succ_cons, List.take_succ_cons, List.take_zero, List.cons.injEq, and_true] at h0 h1 h2
 subst h0; subst h1; subst h2
 exact ⟨(⟨ra, rn, rc, ka, kn, kc⟩, ⟨k, rows, kids⟩), rfl, ⟨g1, k1, by dsimp only; omega, by dsimp only; omega, g3, k3, g2, k2⟩⟩
theorem opnS_image : OpnS enc Tryz.prog w 100 (fun cs (x : Im) => cs = imV x ∧ (CW (hpOf w) x.bv x.b ∧ CW (hpOf w) x.av x.a)) := fun fuel cs x h hw => by
 obtain ⟨hl, hf⟩ := YJ Tryz.underlying100 h hw
 have hl : cs.length = 7 := by rw [hl]; kernel_rfl
 obtain ⟨c0, c1, c2, c3, c4, c5, c6, rfl⟩ : ∃ c0 c1 c2 c3 c4 c5 c6, cs = [c0, c1, c2, c3, c4, c5, c6] := by
  match cs, hl with
  | [c0, c1, c2, c3, c4, c5, c6], _ => exact ⟨c0, c1, c2, c3, c4, c5, c6, rfl⟩
 obtain ⟨k, h0, _⟩ := Zy h hw Tryz.underlying100 0 0 1 rfl rfl rfl (by kernel_rfl) (Yp Tryz.underlying3).sized
 obtain ⟨⟨bv, b⟩, h1, w1⟩ := Zy h hw Tryz.underlying100 1 1 3 rfl rfl rfl (by kernel_rfl) opnS_cont
 obtain ⟨⟨av, a⟩, h2, w2⟩ := Zy h hw Tryz.underlying100 2 4 3 rfl rfl rfl (by kernel_rfl) opnS_cont
 simp only [List.drop_zero, List.drop_succ_cons, List.take_succ_cons, List.take_zero, List.cons.injEq, and_true, contV] at h0 h1 h2
 obtain ⟨rfl, rfl, rfl⟩ := h1
 obtain ⟨rfl, rfl, rfl⟩ := h2
 subst h0
 exact ⟨⟨k, bv, b, av, a⟩, rfl, w1, w2⟩
theorem opnS_step : OpnS enc Tryz.prog w 60 (fun cs (x : Stp) => cs = stpV x ∧ RowFit x.row) := fun fuel cs x h hw => by
 obtain ⟨hl, hf⟩ := YJ Tryz.underlying60 h hw
 have hl : cs.length = 6 := by rw [hl]; kernel_rfl
 obtain ⟨c0, c1, c2, c3, c4, c5, rfl⟩ : ∃ c0 c1 c2 c3 c4 c5, cs = [c0, c1, c2, c3, c4, c5] := by
  match cs, hl with
  | [c0, c1, c2, c3, c4, c5], _ => exact ⟨c0, c1, c2, c3, c4, c5, rfl⟩
 obtain ⟨k, h0, _⟩ := Zy h hw Tryz.underlying60 0 0 1 rfl rfl rfl (by kernel_rfl) (Yp Tryz.underlying3).sized
 obtain ⟨r, h1, w1⟩ := Zy h hw Tryz.underlying60 1 1 4 rfl rfl rfl (by kernel_rfl) opnS_row
 obtain ⟨b, h2, _⟩ := Zy h hw Tryz.underlying60 2 5 1 rfl rfl rfl (by kernel_rfl) (Yp Tryz.underlying2).sized
 simp only [List.drop_zero, List.drop_succ_cons, List.take_succ_cons, List.take_zero, List.cons.injEq, and_true, rowV] at h0 h1 h2
 obtain ⟨rfl, rfl, rfl, rfl⟩ := h1
 subst h0; subst h2
 exact ⟨⟨k, r, b⟩, rfl, w1⟩
theorem YQ {i : Int} (h : lo .u64 ≤ i) : ((i.toNat : Nat) : Int) = i := by simp only [lo] at h; omega
theorem opnS_ckt : OpnS enc Tryz.prog w 169 (fun cs (x : CkT) => cs = XU x ∧ True) := fun fuel cs x h hw => by
 obtain ⟨hl, hf⟩ := YJ Tryz.underlying169 h hw
 have hl : cs.length = 5 := by rw [hl]; kernel_rfl
 obtain ⟨c0, c1, c2, c3, c4, rfl⟩ : ∃ c0 c1 c2 c3 c4, cs = [c0, c1, c2, c3, c4] := by
  match cs, hl with
  | [c0, c1, c2, c3, c4], _ => exact ⟨c0, c1, c2, c3, c4, rfl⟩
 obtain ⟨k, h0, _⟩ := Zy h hw Tryz.underlying169 0 0 1 rfl rfl rfl (by kernel_rfl) (Yp Tryz.underlying3).sized
 obtain ⟨f, h1, f0, f1⟩ := Zy h hw Tryz.underlying169 1 1 1 rfl rfl rfl (by kernel_rfl) (Yp Tryz.underlying28).sized
 obtain ⟨l, h2, l0, l1⟩ := Zy h hw Tryz.underlying169 2 2 1 rfl rfl rfl (by kernel_rfl) (Yp Tryz.underlying28).sized
 obtain ⟨u, h3, u0, u1⟩ := Zy h hw Tryz.underlying169 3 3 1 rfl rfl rfl (by kernel_rfl) (Yp Tryz.underlying28).sized
 obtain ⟨s, h4, _⟩ := Zy h hw Tryz.underlying169 4 4 1 rfl rfl rfl (by kernel_rfl) (Yp Tryz.underlying3).sized
 simp only [List.drop_zero, List.drop_succ_cons, List.take_succ_cons, List.take_zero, List.cons.injEq, and_true] at h0 h1 h2 h3 h4
 subst h0; subst h1; subst h2; subst h3; subst h4
 refine ⟨⟨k, f.toNat, l.toNat, u.toNat, s⟩, ?_, trivial⟩
 simp only [XU, YQ f0, YQ l0, YQ u0]
theorem opnS_ckp : OpnS enc Tryz.prog w 92 (fun cs (x : Yq) => cs = YG x ∧ True) := fun fuel cs x h hw => by
 obtain ⟨hl, hf⟩ := YJ Tryz.underlying92 h hw
 have hl : cs.length = 2 := by rw [hl]; kernel_rfl
 obtain ⟨c0, c1, rfl⟩ : ∃ c0 c1, cs = [c0, c1] := by
  match cs, hl with
  | [c0, c1], _ => exact ⟨c0, c1, rfl⟩
 obtain ⟨k, h0, _⟩ := Zy h hw Tryz.underlying92 0 0 1 rfl rfl rfl (by kernel_rfl) (Yp Tryz.underlying3).sized
 obtain ⟨f, h1, f0, f1⟩ := Zy h hw Tryz.underlying92 1 1 1 rfl rfl rfl (by kernel_rfl) (Yp Tryz.underlying28).sized
 simp only [List.drop_zero, List.drop_succ_cons, List.take_succ_cons, List.take_zero, List.cons.injEq, and_true] at h0 h1
 subst h0; subst h1
 refine ⟨⟨k, f.toNat⟩, ?_, trivial⟩
 simp only [YG, YQ f0]
theorem opnS_rec : OpnS enc Tryz.prog w 34 (fun cs (x : RV × Rc) => cs = Yx x.1 x.2 ∧ RcW (hpOf w) x.1 x.2) := fun fuel cs x h hw => by
 obtain ⟨hl, hf⟩ := YJ Tryz.underlying34 h hw
 have hl : cs.length = 10 := by rw [hl]; kernel_rfl
 obtain ⟨c0, c1, c2, c3, c4, c5, c6, c7, c8, c9, rfl⟩ : ∃ c0 c1 c2 c3 c4 c5 c6 c7 c8 c9, cs = [c0, c1, c2, c3, c4, c5, c6, c7, c8, c9] := by
  match cs, hl with
  | [c0, c1, c2, c3, c4, c5, c6, c7, c8, c9], _ => exact ⟨c0, c1, c2, c3, c4, c5, c6, c7, c8, c9, rfl⟩
 obtain ⟨k, h0, _⟩ := Zy h hw Tryz.underlying34 0 0 1 rfl rfl rfl (by kernel_rfl) (Yp Tryz.underlying3).sized
 obtain ⟨l, h1, l0, _⟩ := Zy h hw Tryz.underlying34 1 1 1 rfl rfl rfl (by kernel_rfl) (Yp Tryz.underlying28).sized
 obtain ⟨t, h2, _⟩ := Zy h hw Tryz.underlying34 2 2 1 rfl rfl rfl (by kernel_rfl) (Yp Tryz.underlying3).sized
 obtain ⟨p, h3, p0, _⟩ := Zy h hw Tryz.underlying34 3 3 1 rfl rfl rfl (by kernel_rfl) (Yp Tryz.underlying28).sized
 obtain ⟨n, h4, n0, _⟩ := Zy h hw Tryz.underlying34 4 4 1 rfl rfl rfl (by kernel_rfl) (Yp Tryz.underlying28).sized
 obtain ⟨⟨ia, inn, ic, ims⟩, h5, w5⟩ := Zy h hw Tryz.underlying34 5 5 1 rfl rfl rfl (by kernel_rfl) (Xl (sz := 7) (by' := 120) Tryz.underlying29 (by kernel_rfl) (by decide) (by kernel_rfl) opnS_image)
 obtain ⟨⟨sa, sn, sc, steps⟩, h6, w6⟩ := Zy h hw Tryz.underlying34 6 6 1 rfl rfl rfl (by kernel_rfl) (Xl (sz := 6) (by' := 56) Tryz.underlying30 (by kernel_rfl) (by decide) (by kernel_rfl) opnS_step)
 obtain ⟨x7, h7, _⟩ := Zy h hw Tryz.underlying34 7 7 1 rfl rfl rfl (by kernel_rfl) (Yp Tryz.underlying3).sized
 obtain ⟨⟨ta, tn, tc, txns⟩, h8, w8⟩ := Zy h hw Tryz.underlying34 8 8 1 rfl rfl rfl (by kernel_rfl) (Xl (sz := 5) (by' := 40) Tryz.underlying31 (by kernel_rfl) (by decide) (by kernel_rfl) opnS_ckt)
 obtain ⟨⟨da, dn, dc, dirty⟩, h9, w9⟩ := Zy h hw Tryz.underlying34 9 9 1 rfl rfl rfl (by kernel_rfl) (Xl (sz := 2) (by' := 16) Tryz.underlying32 (by kernel_rfl) (by decide) (by kernel_rfl) opnS_ckp)
 obtain ⟨i1, i2, i3, _⟩ := Wt imV_len h5
 obtain ⟨s1, s2, s3, _⟩ := Wt stpV_len h6
 obtain ⟨t1, t2, t3, _⟩ := Wt ckTV_len h8
 obtain ⟨d1, d2, d3, _⟩ := Wt WE h9
 simp only [reachBytes] at w5 w6 w8 w9
 replace h5 := h5.cells
 replace h6 := h6.cells
 replace h8 := h8.cells
 replace h9 := h9.cells
 simp only [List.drop_zero, List.drop_succ_cons, List.take_succ_cons, List.take_zero, List.cons.injEq, and_true] at h0 h1 h2 h3 h4 h5 h6 h7 h8 h9
 subst h0; subst h1; subst h2; subst h3; subst h4; subst h5; subst h6; subst h7; subst h8; subst h9
 refine ⟨(⟨⟨ia, inn, ic⟩, ⟨sa, sn, sc⟩, ⟨ta, tn, tc⟩, ⟨da, dn, dc⟩⟩, ⟨k, l.toNat, t, p.toNat, n.toNat, ims, steps, x7, txns, dirty⟩), ?_, ⟨⟨i1, by dsimp only; omega, i3⟩, i2, ⟨s1, by dsimp only; omega, s3⟩, ⟨t1, by dsimp only; omega, t3⟩, ⟨d1, by dsimp only; omega, d3⟩, s2⟩⟩
 simp only [Yx, YQ l0, YQ p0, YQ n0]
end
structure RosW (ρ : Hp) (v : SV) (r : Ros) : Prop where
 at' : AW ρ 7 Yk v r.txns
 tx : ∀ x ∈ r.txns, Tx.In ρ x
theorem RosW.in' {ρ v r} (h : RosW ρ v r) (hn : v.n ≤ 1000000) : RosIn ρ v r := ⟨⟨h.at'.at', hn, h.at'.cap⟩, h.tx⟩
theorem RosW.mono {ρ ρ' v r} (h : RosW ρ v r) (hle : ρ.le ρ') : RosW ρ' v r := ⟨h.at'.mono hle, fun x hx => (h.tx x hx).mono hle⟩
theorem sIn_ofA {ρ : Hp} {α : Type} {g : α → Value} {a : Option Addr} {n : Nat} {l : List α} (h : AIn ρ 1 (fun x => [g x]) a n l) : SIn ρ g a n l := by
 refine ⟨h.len, ?_⟩
 rcases h.out with h0 | ⟨b, off, C, T, fr, e1, e2, e3, e4⟩
 ·exact .inl h0
 ·right
  refine ⟨b, off, C, T, fr, e1, e2, ?_⟩
  have key : ∀ l : List α, (l.map (fun x => [g x])).flatten = l.map g := fun l => by
   induction l with
   | nil => rfl
   | cons a r ih => simp only [List.map_cons, List.flatten_cons, ih, List.singleton_append]
  have := key l
  rw [← this, ← e4]; simp
section
variable {H : Type} {enc : TypeId × Value → H} {w : World}
theorem opnS_left : OpnS enc Tryz.prog w 108 (fun cs (x : Lf) => cs = lfV x ∧ True) := fun fuel cs x h hw => by
 obtain ⟨hl, hf⟩ := YJ Tryz.underlying108 h hw
 have hl : cs.length = 2 := by rw [hl]; kernel_rfl
 obtain ⟨c0, c1, rfl⟩ : ∃ c0 c1, cs = [c0, c1] := by
  match cs, hl with
  | [c0, c1], _ => exact ⟨c0, c1, rfl⟩
 obtain ⟨k, h0, k0, _⟩ := Zy h hw Tryz.underlying108 0 0 1 rfl rfl rfl (by kernel_rfl) (Yp Tryz.underlying28).sized
 obtain ⟨f, h1, f0, f1⟩ := Zy h hw Tryz.underlying108 1 1 1 rfl rfl rfl (by kernel_rfl) (Yp Tryz.underlying3).sized
 simp only [List.drop_zero, List.drop_succ_cons, List.take_succ_cons, List.take_zero, List.cons.injEq, and_true] at h0 h1
 subst h0; subst h1
 refine ⟨⟨k.toNat, f⟩, ?_, trivial⟩
 simp only [lfV, YQ k0]
theorem opnS_u64 : OpnS enc Tryz.prog w 28 (fun cs (x : Nat) => cs = [Yr x] ∧ x < 18446744073709551616) := fun fuel cs x h hw => by
 obtain ⟨k, h0, k0, k1⟩ := (Yp Tryz.underlying28).sized fuel cs x h hw
 refine ⟨k.toNat, by rw [h0]; simp only [Yr, YQ k0], ?_⟩
 simp only [lo, hi] at k0 k1; omega
theorem opnS_txn : OpnS enc Tryz.prog w 45 (fun cs (x : Tx) => cs = Yk x ∧ Tx.In (hpOf w) x) := fun fuel cs x h hw => by
 obtain ⟨hl, hf⟩ := YJ Tryz.underlying45 h hw
 have hl : cs.length = 7 := by rw [hl]; kernel_rfl
 obtain ⟨c0, c1, c2, c3, c4, c5, c6, rfl⟩ : ∃ c0 c1 c2 c3 c4 c5 c6, cs = [c0, c1, c2, c3, c4, c5, c6] := by
  match cs, hl with
  | [c0, c1, c2, c3, c4, c5, c6], _ => exact ⟨c0, c1, c2, c3, c4, c5, c6, rfl⟩
 obtain ⟨k, h0, _⟩ := Zy h hw Tryz.underlying45 0 0 1 rfl rfl rfl (by kernel_rfl) (Yp Tryz.underlying3).sized
 obtain ⟨s, h1, _⟩ := Zy h hw Tryz.underlying45 1 1 1 rfl rfl rfl (by kernel_rfl) (Yp Tryz.underlying3).sized
 obtain ⟨f, h2, f0, _⟩ := Zy h hw Tryz.underlying45 2 2 1 rfl rfl rfl (by kernel_rfl) (Yp Tryz.underlying28).sized
 obtain ⟨l, h3, l0, _⟩ := Zy h hw Tryz.underlying45 3 3 1 rfl rfl rfl (by kernel_rfl) (Yp Tryz.underlying28).sized
 obtain ⟨u, h4, u0, _⟩ := Zy h hw Tryz.underlying45 4 4 1 rfl rfl rfl (by kernel_rfl) (Yp Tryz.underlying28).sized
 obtain ⟨⟨sa, sn, sc, st⟩, h5, w5⟩ := Zy h hw Tryz.underlying45 5 5 1 rfl rfl rfl (by kernel_rfl) (Xl (sz := 2) (by' := 16) Tryz.underlying42 (by kernel_rfl) (by decide) (by kernel_rfl) opnS_left)
 obtain ⟨⟨ma, mn, mc, ms⟩, h6, w6⟩ := Zy h hw Tryz.underlying45 6 6 1 rfl rfl rfl (by kernel_rfl) (Xl (sz := 1) (by' := 8) Tryz.underlying43 (by kernel_rfl) (by decide) (by kernel_rfl) opnS_u64)
 obtain ⟨s1, s2, s3, _⟩ := Wt lfV_len h5
 obtain ⟨m1, m2, m3, _⟩ := Wt (g := fun x : Nat => [Yr x]) (fun _ => rfl) h6
 simp only [reachBytes] at w5 w6
 replace h5 := h5.cells
 replace h6 := h6.cells
 simp only [List.drop_zero, List.drop_succ_cons, List.take_succ_cons, List.take_zero, List.cons.injEq, and_true] at h0 h1 h2 h3 h4 h5 h6
 subst h0; subst h1; subst h2; subst h3; subst h4; subst h5; subst h6
 refine ⟨⟨k, s, f.toNat, l.toNat, u.toNat, st, ms, ⟨sa, sn, sc⟩, ⟨ma, mn, mc⟩⟩, ?_, ⟨s1, sIn_ofA m1, by dsimp only; omega, by dsimp only; omega, s3, m3⟩⟩
 simp only [Yk, YQ f0, YQ l0, YQ u0]
theorem opnS_roster : OpnS enc Tryz.prog w 26 (fun cs (x : SV × Ros) => cs = XI x.1 x.2 ∧ RosW (hpOf w) x.1 x.2) := fun fuel cs x h hw => by
 obtain ⟨hl, hf⟩ := YJ Tryz.underlying26 h hw
 have hl : cs.length = 2 := by rw [hl]; kernel_rfl
 obtain ⟨c0, c1, rfl⟩ : ∃ c0 c1, cs = [c0, c1] := by
  match cs, hl with
  | [c0, c1], _ => exact ⟨c0, c1, rfl⟩
 obtain ⟨k, h0, _⟩ := Zy h hw Tryz.underlying26 0 0 1 rfl rfl rfl (by kernel_rfl) (Yp Tryz.underlying3).sized
 obtain ⟨⟨ta, tn, tc, ts⟩, h1, w1⟩ := Zy h hw Tryz.underlying26 1 1 1 rfl rfl rfl (by kernel_rfl) (Xl (sz := 7) (by' := 88) Tryz.underlying24 (by kernel_rfl) (by decide) (by kernel_rfl) opnS_txn)
 obtain ⟨t1, t2, t3, _⟩ := Wt txV_len h1
 simp only [reachBytes] at w1
 replace h1 := h1.cells
 simp only [List.drop_zero, List.drop_succ_cons, List.take_succ_cons, List.take_zero, List.cons.injEq, and_true] at h0 h1
 subst h0; subst h1
 exact ⟨(⟨ta, tn, tc⟩, ⟨k, ts⟩), rfl, ⟨⟨t1, by dsimp only; omega, t3⟩, t2⟩⟩
end
end Go.Proofs.E
