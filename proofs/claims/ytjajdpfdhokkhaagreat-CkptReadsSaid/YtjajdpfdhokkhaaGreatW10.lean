/- The law CkptReads. Part 10 of 14. -/
import Derived.Test.YtjajdpfdhokkhaaGreatW9
namespace Go.Proofs.E
open Go
set_option linter.unusedVariables false
set_option linter.unusedSimpArgs false
set_option linter.unusedSectionVars false
set_option maxRecDepth 4000
set_option maxHeartbeats 1000000
attribute [local irreducible] Yl TL TC TE Spec YSpec R1 Hp.le EnvLe TS TR YS Stays
-- BN
abbrev i64c (i : Int) : Value := .int .i64 i
def chgI (n : Int) : Im := ⟨n, ⟨none, 0, 0, none, 0, 0⟩, ⟨0, [], []⟩, ⟨none, 0, 0, none, 0, 0⟩, ⟨0, [], []⟩⟩
theorem chgI_in {ρ : Hp} (n : Int) : Im.In ρ (chgI n) := ⟨CI.nil, CI.nil⟩
def chgR (lsn : Nat) (l : List Int) : Rc := ⟨2, lsn, 1, 1, 0, l.map chgI, [], 0, [], []⟩
theorem change_spec (ρ : Hp) (lsn : Nat) (a : Option Addr) (n c : Nat) (l : List Int) (h : SIn ρ i64c a n l) (hn : n ≤ 1000) : Spec Tryz.prog 68 [.int .u64 lsn, .slice a n c] ρ []
    (fun z ρ' L' => ρ.le ρ' ∧ ∃ v, z = .agg ⟨recV v (chgR lsn l)⟩ ∧ RcIn ρ' v (chgR lsn l) ∧ v.i.n = n ∧ L' = []) := by
  have hl := h.len
  refine spec_enter Tryz.func68 rfl rfl rfl fun u R => ?_
  simp only [argsE, List.cons_append, List.nil_append]
  repeat' (first | (refine iBu ?_; refine tl_y (y_buildN rfl) rfl rfl ?_) | (refine i_op ?_; first | (refine i_qq ?_; refine qQ ?_) | refine qEf ?_) | refine tl_nil ?_ | (refine i_tc ?_; refine qTc ?_) | (refine i_te ?_; refine qTe ?_) | intro _)
  rename_i b4 b5
  refine tc_loop_g [(4, _), (5, _), (10, _), (11, _)] (fun (ζ : (Nat) × (Value) × (List Value)) => [(12, .int .i64 ζ.1)]) (fun (ζ : (Nat) × (Value) × (List Value)) => ρ) (fun (ζ : (Nat) × (Value) × (List Value)) => [[(b5, .cells ⟨[.int .i64 2, .int .u64 lsn, .int .i64 1, .int .u64 1, .int .u64 0, ζ.2.1, .slice none 0 0, .int .i64 0, .slice none 0 0, .slice none 0 0]⟩ 30 (0, 0))], ownC ζ.2.1 ((((l.take ζ.1).map chgI).map imV).flatten) ζ.2.2 128]) (fun (ζ : (Nat) × (Value) × (List Value)) => ζ.1 ≤ n ∧ OwnS ζ.2.1 ζ.1 ((((l.take ζ.1).map chgI).map imV).flatten) ζ.2.2 7) (fun (ζ : (Nat) × (Value) × (List Value)) => n - ζ.1) ((0, .slice none 0 0, [])) (⟨Nat.zero_le _, OwnS.nil 7⟩) ev_le ev_le rfl tk ?_
  rintro ⟨k, vv, sp⟩ hI
  try simp only [List.cons_append, List.nil_append, List.append_assoc, List.append_eq] at hI ⊢
  try dsimp only at hI ⊢
  obtain ⟨hk, hown⟩ := hI
  obtain ⟨va, vc, rfl, _⟩ := hown.slice
  by_cases hlt : k < n
  · obtain ⟨b, off, C, T, fr, e1, hb, hc⟩ := h.get (show k < l.length by omega)
    have hx := List.take_succ_eq_append_getElem (show k < l.length by omega)
    generalize l[k]'(by omega) = x at *
    rw [e1]
    repeat' (first | (refine iBu ?_; refine tl_y (y_buildN rfl) rfl rfl ?_) | (refine i_op ?_; first | (refine i_qq ?_; refine qQ ?_) | refine qEf ?_) | refine tl_nil ?_ | (refine i_tc ?_; refine qTc ?_) | (refine i_te ?_; refine qTe ?_) | intro _)
    refine tl_buildSliceA (css := [imV (chgI x)]) (sz := 7) rfl rfl rfl rfl (by simp) (by simp) rfl (fun bs => ?_)
    simp only [List.flatten_cons, List.flatten_nil, List.append_nil]
    refine tl_app (ys := imV (chgI x)) (m := 1) rfl rfl hown (hR := by infer_instance) (SrcV.lit) rfl rfl (by decide) rfl (by omega) (by omega) rfl (fun v' sp' hown' => ?_)
    have hm : (((l.take k).map chgI).map imV).flatten ++ imV (chgI x) = (((l.take (k + 1)).map chgI).map imV).flatten := by rw [hx]; simp
    rw [hm] at hown' ⊢
    obtain ⟨va', vc', rfl, _⟩ := hown'.slice
    repeat' (first | (refine iBu ?_; refine tl_y (y_buildN rfl) rfl rfl ?_) | (refine i_op ?_; first | (refine i_qq ?_; refine qQ ?_) | refine qEf ?_) | refine tl_nil ?_ | (refine i_tc ?_; refine qTc ?_) | (refine i_te ?_; refine qTe ?_) | intro _)
    rw [← e1]
    refine te_round_g (k + 1, _, sp') (⟨hlt, hown'⟩) ev_le ev_le rfl tk inferInstance (by first | omega | (dsimp only; omega))
  · have hk2 : k = l.length := by omega
    rw [show l.take k = l by rw [hk2, List.take_length]] at hown ⊢
    refine tc_freeze (ownC (.slice va k vc) (((l.map chgI).map imV).flatten) sp 128) (fun ρ3 hle3 hfz => ?_)
    obtain ⟨sa, sc, e1, hsc, hA2⟩ := hown.aIn (by simp; omega) (fun x _ => imV_len x) hfz
    cases e1
    have hR : RcIn ρ3 ⟨⟨va, k, vc⟩, nilS, nilS, nilS⟩ (chgR lsn l) := ⟨⟨hA2, by dsimp only; omega, hsc⟩, fun x hx => by
      obtain ⟨t, _, rfl⟩ := List.mem_map.1 hx
      exact chgI_in t, AS.nil, AS.nil, AS.nil, by simp [chgR]⟩
    repeat' (first | (refine iBu ?_; refine tl_y (y_buildN rfl) rfl rfl ?_) | (refine i_op ?_; first | (refine i_qq ?_; refine qQ ?_) | refine qEf ?_) | refine tl_nil ?_ | (refine i_tc ?_; refine qTc ?_) | (refine i_te ?_; refine qTe ?_) | intro _)
    exact qE (L' := []) ⟨hle3, _, rfl, hR, by dsimp only; omega, rfl⟩
structure CW (ρ : Hp) (v : CV) (c : Cont) : Prop where
  r : AIn ρ 4 rowV v.ra v.rn c.rows
  k : AIn ρ 3 kidV v.ka v.kn c.kids
  rb : v.rn ≤ 140737488355328
  kb : v.kn ≤ 140737488355328
  rc : v.rn ≤ v.rc
  kc : v.kn ≤ v.kc
  row : ∀ r ∈ c.rows, RowFit r
  kid : ∀ k ∈ c.kids, k.id < 65536
structure AW (ρ : Hp) (sz : Nat) {α : Type} (g : α → List Value) (s : SV) (l : List α) : Prop where
  at' : AIn ρ sz g s.a s.n l
  big : s.n ≤ 140737488355328
  cap : s.n ≤ s.c
structure RcW (ρ : Hp) (v : RV) (r : Rc) : Prop where
  i : AW ρ 7 imV v.i r.ims
  im : ∀ x ∈ r.ims, CW ρ x.bv x.b ∧ CW ρ x.av x.a
  s : AW ρ 6 stpV v.s r.steps
  t : AW ρ 5 ckTV v.t r.txns
  d : AW ρ 2 ckPV v.d r.dirty
  sf : ∀ s ∈ r.steps, RowFit s.row
theorem CW.mono {ρ ρ' v c} (h : CW ρ v c) (hle : ρ.le ρ') : CW ρ' v c := ⟨h.r.mono hle, h.k.mono hle, h.rb, h.kb, h.rc, h.kc, h.row, h.kid⟩
theorem AW.mono {ρ ρ' : Hp} {sz : Nat} {α : Type} {g : α → List Value} {s : SV} {l : List α} (h : AW ρ sz g s l) (hle : ρ.le ρ') : AW ρ' sz g s l := ⟨h.at'.mono hle, h.big, h.cap⟩
theorem RcW.mono {ρ ρ' v r} (h : RcW ρ v r) (hle : ρ.le ρ') : RcW ρ' v r := ⟨h.i.mono hle, fun x hx => ⟨(h.im x hx).1.mono hle, (h.im x hx).2.mono hle⟩, h.s.mono hle, h.t.mono hle, h.d.mono hle, h.sf⟩
def imN (x : Im) : Nat := x.b.rows.length + x.b.kids.length + x.a.rows.length + x.a.kids.length
def overB (r : Rc) : Bool := decide (17 < r.ims.length ∨ 3 < r.steps.length ∨ 9 < r.txns.length ∨ 65 < r.dirty.length) || r.ims.any (fun x => decide (30 < imN x))
theorem RcW.in' {ρ v r} (h : RcW ρ v r) (ho : overB r = false) : RcIn ρ v r ∧ v.i.n ≤ 17 ∧ v.d.n ≤ 65 := by
  unfold overB at ho
  rw [Bool.or_eq_false_iff, decide_eq_false_iff_not, List.any_eq_false] at ho
  obtain ⟨h1, h2⟩ := ho
  have li := h.i.at'.len
  have ls := h.s.at'.len
  have lt := h.t.at'.len
  have ld := h.d.at'.len
  refine ⟨⟨⟨h.i.at', by omega, h.i.cap⟩, fun x hx => ?_, ⟨h.s.at', by omega, h.s.cap⟩, ⟨h.t.at', by omega, h.t.cap⟩, ⟨h.d.at', by omega, h.d.cap⟩, h.sf⟩, by omega, by omega⟩
  have h3 := h2 x hx
  simp only [decide_eq_true_eq] at h3
  unfold imN at h3
  obtain ⟨hb, ha⟩ := h.im x hx
  have e1 := hb.r.len
  have e2 := hb.k.len
  have e3 := ha.r.len
  have e4 := ha.k.len
  exact ⟨⟨⟨hb.r, hb.k, by omega, by omega, hb.rc, hb.kc⟩, hb.row, hb.kid⟩, ⟨⟨ha.r, ha.k, by omega, by omega, ha.rc, ha.kc⟩, ha.row, ha.kid⟩⟩
theorem over22_spec (ρ : Hp) (v : RV) (r : Rc) (h : RcW ρ v r) : Spec Tryz.prog 14 [.agg ⟨recV v r⟩] ρ [] (fun z ρ' L' => z = .bool (overB r) ∧ ρ' = ρ ∧ L' = []) := by
  have li := h.i.at'.len
  have ls := h.s.at'.len
  have lt := h.t.at'.len
  have ld := h.d.at'.len
  unfold overB
  refine spec_enter Tryz.func14 rfl rfl rfl fun u R => ?_
  simp only [argsE, List.cons_append, List.nil_append]
  by_cases hb : 17 < r.ims.length ∨ 3 < r.steps.length ∨ 9 < r.txns.length ∨ 65 < r.dirty.length
  · rw [decide_eq_true hb, Bool.true_or]
    repeat' (first | (refine iBu ?_; refine tl_y (y_buildN rfl) rfl rfl ?_) | (refine i_op ?_; first | (refine i_qq ?_; refine qQ ?_) | refine qEf ?_) | refine tl_nil ?_ | (refine i_tc ?_; refine qTc ?_) | (refine i_te ?_; refine qTe ?_) | (refine i_gd ?_; refine tl_guard rfl rfl (fun hb => ?_) (fun hb => ?_) <;> (try simp only [decide_eq_true_eq, decide_eq_false_iff_not, Bool.not_eq_true, Bool.not_eq_false, beq_iff_eq, bne_iff_ne, ne_eq, decide_eq_decide, Bool.not_eq_eq_eq_not, Bool.not_true, Bool.not_false, beq_eq_false_iff_ne, bne_eq_false_iff_eq, Bool.and_eq_true, Bool.or_eq_true, Bool.and_eq_false_imp, Bool.or_eq_false_iff, bq2, bqt, bqf] at hb)) | (refine i_cond ?_; refine tc_cond rfl (fun hb => ?_) (fun hb => ?_) <;> (try simp only [decide_eq_true_eq, decide_eq_false_iff_not, Bool.not_eq_true, Bool.not_eq_false, beq_iff_eq, bne_iff_ne, ne_eq, decide_eq_decide, Bool.not_eq_eq_eq_not, Bool.not_true, Bool.not_false, beq_eq_false_iff_ne, bne_eq_false_iff_eq, Bool.and_eq_true, Bool.or_eq_true, Bool.and_eq_false_imp, Bool.or_eq_false_iff, bq2, bqt, bqf] at hb)) | intro _)
    all_goals first | exact qE (L' := []) ⟨rfl, rfl, rfl⟩ | (exfalso; omega)
  · rw [decide_eq_false hb, Bool.false_or]
    have hA := h.i.at'
    generalize hq : r.ims.any (fun x => decide (30 < imN x)) = q
    repeat' (first | (refine iBu ?_; refine tl_y (y_buildN rfl) rfl rfl ?_) | (refine i_op ?_; first | (refine i_qq ?_; refine qQ ?_) | refine qEf ?_) | refine tl_nil ?_ | (refine i_tc ?_; refine qTc ?_) | (refine i_te ?_; refine qTe ?_) | intro _)
    refine tc_loop_g [(28, _), (29, _)] (fun (ζ : (Nat)) => [(30, .int .i64 ζ), (2, .bool false)]) (fun (ζ : (Nat)) => ρ) (fun (ζ : (Nat)) => []) (fun (ζ : (Nat)) => ζ ≤ v.i.n ∧ (r.ims.drop ζ).any (fun x => decide (30 < imN x)) = q) (fun (ζ : (Nat)) => v.i.n - ζ) (0) (⟨Nat.zero_le _, hq⟩) ev_le ev_le rfl tk ?_
    rintro k hI
    try simp only [List.cons_append, List.nil_append, List.append_assoc, List.append_eq] at hI ⊢
    try dsimp only at hI ⊢
    obtain ⟨hk, hok⟩ := hI
    by_cases hlt : k < v.i.n
    · obtain ⟨b, off, C, T, fr, e1, hb1, hfit, hc⟩ := hA.get (show k < r.ims.length by omega)
      have hmem := List.getElem_mem (show k < r.ims.length by omega)
      rw [List.drop_eq_getElem_cons (show k < r.ims.length by omega), List.any_cons] at hok
      generalize r.ims[k]'(by omega) = x at *
      obtain ⟨hxb, hxa⟩ := h.im x hmem
      have f1 := hxb.r.len
      have f2 := hxb.k.len
      have f3 := hxa.r.len
      have f4 := hxa.k.len
      have g1 := hxb.rb
      have g2 := hxb.kb
      have g3 := hxa.rb
      have g4 := hxa.kb
      rw [e1]
      by_cases hx : 30 < imN x
      · rw [decide_eq_true hx, Bool.true_or] at hok
        subst hok
        unfold imN at hx
        repeat' (first | (refine iBu ?_; refine tl_y (y_buildN rfl) rfl rfl ?_) | (refine i_op ?_; first | (refine i_qq ?_; refine qQ ?_) | refine qEf ?_) | refine tl_nil ?_ | (refine i_tc ?_; refine qTc ?_) | (refine i_te ?_; refine qTe ?_) | intro _)
        exact qE (L' := []) ⟨rfl, rfl, rfl⟩
      · rw [decide_eq_false hx, Bool.false_or] at hok
        unfold imN at hx
        repeat' (first | (refine iBu ?_; refine tl_y (y_buildN rfl) rfl rfl ?_) | (refine i_op ?_; first | (refine i_qq ?_; refine qQ ?_) | refine qEf ?_) | refine tl_nil ?_ | (refine i_tc ?_; refine qTc ?_) | (refine i_te ?_; refine qTe ?_) | intro _)
        rw [← e1]
        refine te_round_g (k + 1) (⟨hlt, hok⟩) ev_le ev_le rfl tk inferInstance (by first | omega | (dsimp only; omega))
    · have hk2 : k = r.ims.length := by omega
      rw [hk2, List.drop_length, List.any_nil] at hok
      subst hok
      repeat' (first | (refine iBu ?_; refine tl_y (y_buildN rfl) rfl rfl ?_) | (refine i_op ?_; first | (refine i_qq ?_; refine qQ ?_) | refine qEf ?_) | refine tl_nil ?_ | (refine i_tc ?_; refine qTc ?_) | (refine i_te ?_; refine qTe ?_) | intro _)
      exact qE (L' := []) ⟨rfl, rfl, rfl⟩
end Go.Proofs.E

namespace Go.Proofs.E
open Go Go.RowKit
set_option linter.unusedVariables false
set_option linter.unusedSimpArgs false
set_option linter.unusedSectionVars false
set_option maxRecDepth 8000
/-! ## records that came in: how they are read -/
theorem rsw_flat {α : Type} {sz : Nat} {g : α → List Value} {C : List Value} {off : Nat} : ∀ (l : List α) (k : Nat), k ≤ l.length → (∀ i (h : i < l.length), (C.drop (off + i * sz)).take sz = g l[i]) → (C.drop off).take (k * sz) = ((l.take k).map g).flatten
  | l, 0, _, _ => by simp
  | l, k + 1, hk, h => by
    have ih := rsw_flat l k (by omega) h
    rw [show l.take (k + 1) = l.take k ++ [l[k]'(by omega)] from List.take_succ_eq_append_getElem (by omega), Nat.add_mul, Nat.one_mul, List.take_add, ih, List.drop_drop, h k (by omega)]
    simp only [List.map_append, List.flatten_append, List.map_cons, List.map_nil, List.flatten_cons, List.flatten_nil, List.append_nil]
theorem aIn_ofW {ρ : Hp} {α : Type} {sz : Nat} {g : α → List Value} {P : α → Prop} {cs : List Value} {s : Option Addr × Nat × Nat × List α} (hg : ∀ x, (g x).length = sz) (h : RS ρ sz (fun cs x => cs = g x ∧ P x) cs s) : AIn ρ sz g s.1 s.2.1 s.2.2.2 ∧ (∀ x ∈ s.2.2.2, P x) ∧ s.2.1 ≤ s.2.2.1 ∧ s.2.1 ≤ 9223372036854775807 := by
  obtain ⟨a, n, c, ks⟩ := s
  obtain ⟨h1, h2, h3, h4, h5⟩ := h
  dsimp only at h1 h2 h3 h4 h5 ⊢
  refine ⟨⟨h4, ?_, fun x _ => hg x⟩, fun x hx => ?_, h2, by omega⟩
  · by_cases h0 : n = 0
    · exact .inl h0
    · right
      obtain ⟨b, off, C, T, fr, e1, e2, e3, e4⟩ := h5 0 (by omega)
      have same : ∀ i (h : i < ks.length), off + i * sz + sz ≤ C.length ∧ (C.drop (off + i * sz)).take sz = g ks[i] := fun i hi => by
        obtain ⟨b', off', C', T', fr', f1, f2, f3, f4⟩ := h5 i hi
        rw [e1] at f1
        cases f1
        rw [e2] at f2
        cases f2
        exact ⟨f3, f4.1⟩
      refine ⟨b, off, C, T, fr, e1, e2, ?_, ?_⟩
      · have := (same (n - 1) (by omega)).1
        have e : n * sz = (n - 1) * sz + sz := by
          obtain ⟨m, rfl⟩ : ∃ m, n = m + 1 := ⟨n - 1, by omega⟩
          rw [Nat.add_mul]; simp
        omega
      · have := rsw_flat (sz := sz) (g := g) ks n (by omega) (fun i hi => (same i hi).2)
        rw [this, List.take_of_length_le (by omega)]
  · obtain ⟨i, hi, rfl⟩ := List.mem_iff_getElem.1 hx
    obtain ⟨_, _, _, _, _, _, _, _, f⟩ := h5 i hi
    exact f.2
section
variable {H : Type} {enc : TypeId × Value → H} {w : World}
theorem opnS_str : OpnS enc Tryz.prog w 9 (fun cs (l : List UInt8) => cs = [strV l]) := Opn.sized (fun fuel cs x h => by
  obtain ⟨s, rfl, _, _⟩ := DataW.trod_string Tryz.underlying9 h
  obtain ⟨⟨l⟩⟩ := s
  exact ⟨l, rfl⟩)
theorem opnS_key : OpnS enc Tryz.prog w 99 (fun cs (k : Int × Nat) => cs = keyV k.1 k.2 ∧ k.2 < 65536) := Opn.sized (fun fuel cs x h => by
  obtain ⟨hl, hf⟩ := opn_fields Tryz.underlying99 h
  have hl : cs.length = 2 := by rw [hl]; kernel_rfl
  obtain ⟨c0, c1, rfl⟩ : ∃ c0 c1, cs = [c0, c1] := by
    match cs, hl with
    | [c0, c1], _ => exact ⟨c0, c1, rfl⟩
  obtain ⟨t, h0, _⟩ := opn_field h Tryz.underlying99 0 0 1 rfl rfl rfl (by kernel_rfl) (opn_int Tryz.underlying3)
  obtain ⟨i, h1, i0, i1⟩ := opn_field h Tryz.underlying99 1 1 1 rfl rfl rfl (by kernel_rfl) (opn_int Tryz.underlying97)
  simp only [List.drop_zero, List.drop_succ_cons, List.take_succ_cons, List.take_zero, List.cons.injEq, and_true] at h0 h1
  subst h0; subst h1
  simp only [lo, hi] at i0 i1
  refine ⟨(t, i.toNat), ?_, by dsimp only; omega⟩
  have : ((i.toNat : Nat) : Int) = i := by omega
  simp only [keyV, this])
theorem opnS_row : OpnS enc Tryz.prog w 101 (fun cs (r : Row) => cs = rowV r ∧ RowFit r) := fun fuel cs x h hw => by
  obtain ⟨hl, hf⟩ := opnS_fields Tryz.underlying101 h hw
  have hl : cs.length = 4 := by rw [hl]; kernel_rfl
  obtain ⟨c0, c1, c2, c3, rfl⟩ : ∃ c0 c1 c2 c3, cs = [c0, c1, c2, c3] := by
    match cs, hl with
    | [c0, c1, c2, c3], _ => exact ⟨c0, c1, c2, c3, rfl⟩
  obtain ⟨⟨t, i⟩, h0, hi0⟩ := opnS_field h hw Tryz.underlying101 0 0 2 rfl rfl rfl (by kernel_rfl) opnS_key
  obtain ⟨v, h1, v0, v1⟩ := opnS_field h hw Tryz.underlying101 1 2 1 rfl rfl rfl (by kernel_rfl) (opn_int Tryz.underlying2).sized
  obtain ⟨s, h2⟩ := opnS_field h hw Tryz.underlying101 2 3 1 rfl rfl rfl (by kernel_rfl) opnS_str
  simp only [List.drop_zero, List.drop_succ_cons, List.take_succ_cons, List.take_zero, List.cons.injEq, and_true, keyV] at h0 h1 h2
  obtain ⟨rfl, rfl⟩ := h0
  subst h1; subst h2
  simp only [lo, hi] at v0 v1
  exact ⟨⟨t, i, v, s⟩, rfl, ⟨hi0, v0, v1⟩⟩
theorem opnS_kid : OpnS enc Tryz.prog w 224 (fun cs (k : Kid) => cs = kidV k ∧ k.id < 65536) := fun fuel cs x h hw => by
  obtain ⟨hl, hf⟩ := opnS_fields Tryz.underlying224 h hw
  have hl : cs.length = 3 := by rw [hl]; kernel_rfl
  obtain ⟨c0, c1, c2, rfl⟩ : ∃ c0 c1 c2, cs = [c0, c1, c2] := by
    match cs, hl with
    | [c0, c1, c2], _ => exact ⟨c0, c1, c2, rfl⟩
  obtain ⟨⟨t, i⟩, h0, hi0⟩ := opnS_field h hw Tryz.underlying224 0 0 2 rfl rfl rfl (by kernel_rfl) opnS_key
  obtain ⟨v, h1, _⟩ := opnS_field h hw Tryz.underlying224 1 2 1 rfl rfl rfl (by kernel_rfl) (opn_int Tryz.underlying3).sized
  simp only [List.drop_zero, List.drop_succ_cons, List.take_succ_cons, List.take_zero, List.cons.injEq, and_true, keyV] at h0 h1
  obtain ⟨rfl, rfl⟩ := h0
  subst h1
  exact ⟨⟨t, i, v⟩, rfl, hi0⟩
theorem opnS_cont : OpnS enc Tryz.prog w 110 (fun cs (x : CV × Cont) => cs = contV x.2.kind x.1 ∧ CW (hpOf w) x.1 x.2) := fun fuel cs x h hw => by
  obtain ⟨hl, hf⟩ := opnS_fields Tryz.underlying110 h hw
  have hl : cs.length = 3 := by rw [hl]; kernel_rfl
  obtain ⟨c0, c1, c2, rfl⟩ : ∃ c0 c1 c2, cs = [c0, c1, c2] := by
    match cs, hl with
    | [c0, c1, c2], _ => exact ⟨c0, c1, c2, rfl⟩
  obtain ⟨k, h0, _⟩ := opnS_field h hw Tryz.underlying110 0 0 1 rfl rfl rfl (by kernel_rfl) (opn_int Tryz.underlying3).sized
  obtain ⟨⟨ra, rn, rc, rows⟩, h1, w1⟩ := opnS_field h hw Tryz.underlying110 1 1 1 rfl rfl rfl (by kernel_rfl) (opnS_slice (sz := 4) (by' := 40) Tryz.underlying107 (by kernel_rfl) (by decide) (by kernel_rfl) opnS_row)
  obtain ⟨⟨ka, kn, kc, kids⟩, h2, w2⟩ := opnS_field h hw Tryz.underlying110 2 2 1 rfl rfl rfl (by kernel_rfl) (opnS_slice (sz := 3) (by' := 24) Tryz.underlying108 (by kernel_rfl) (by decide) (by kernel_rfl) opnS_kid)
  obtain ⟨g1, g2, g3, _⟩ := aIn_ofW rowV_len h1
  obtain ⟨k1, k2, k3, _⟩ := aIn_ofW kidV_len h2
  simp only [reachBytes] at w1 w2
  replace h1 := h1.cells
  replace h2 := h2.cells
  simp only [List.drop_zero, List.drop_succ_cons, List.take_succ_cons, List.take_zero, List.cons.injEq, and_true] at h0 h1 h2
  subst h0; subst h1; subst h2
  exact ⟨(⟨ra, rn, rc, ka, kn, kc⟩, ⟨k, rows, kids⟩), rfl, ⟨g1, k1, by dsimp only; omega, by dsimp only; omega, g3, k3, g2, k2⟩⟩
theorem opnS_image : OpnS enc Tryz.prog w 128 (fun cs (x : Im) => cs = imV x ∧ (CW (hpOf w) x.bv x.b ∧ CW (hpOf w) x.av x.a)) := fun fuel cs x h hw => by
  obtain ⟨hl, hf⟩ := opnS_fields Tryz.underlying128 h hw
  have hl : cs.length = 7 := by rw [hl]; kernel_rfl
  obtain ⟨c0, c1, c2, c3, c4, c5, c6, rfl⟩ : ∃ c0 c1 c2 c3 c4 c5 c6, cs = [c0, c1, c2, c3, c4, c5, c6] := by
    match cs, hl with
    | [c0, c1, c2, c3, c4, c5, c6], _ => exact ⟨c0, c1, c2, c3, c4, c5, c6, rfl⟩
  obtain ⟨k, h0, _⟩ := opnS_field h hw Tryz.underlying128 0 0 1 rfl rfl rfl (by kernel_rfl) (opn_int Tryz.underlying3).sized
  obtain ⟨⟨bv, b⟩, h1, w1⟩ := opnS_field h hw Tryz.underlying128 1 1 3 rfl rfl rfl (by kernel_rfl) opnS_cont
  obtain ⟨⟨av, a⟩, h2, w2⟩ := opnS_field h hw Tryz.underlying128 2 4 3 rfl rfl rfl (by kernel_rfl) opnS_cont
  simp only [List.drop_zero, List.drop_succ_cons, List.take_succ_cons, List.take_zero, List.cons.injEq, and_true, contV] at h0 h1 h2
  obtain ⟨rfl, rfl, rfl⟩ := h1
  obtain ⟨rfl, rfl, rfl⟩ := h2
  subst h0
  exact ⟨⟨k, bv, b, av, a⟩, rfl, w1, w2⟩
theorem opnS_step : OpnS enc Tryz.prog w 103 (fun cs (x : Stp) => cs = stpV x ∧ RowFit x.row) := fun fuel cs x h hw => by
  obtain ⟨hl, hf⟩ := opnS_fields Tryz.underlying103 h hw
  have hl : cs.length = 6 := by rw [hl]; kernel_rfl
  obtain ⟨c0, c1, c2, c3, c4, c5, rfl⟩ : ∃ c0 c1 c2 c3 c4 c5, cs = [c0, c1, c2, c3, c4, c5] := by
    match cs, hl with
    | [c0, c1, c2, c3, c4, c5], _ => exact ⟨c0, c1, c2, c3, c4, c5, rfl⟩
  obtain ⟨k, h0, _⟩ := opnS_field h hw Tryz.underlying103 0 0 1 rfl rfl rfl (by kernel_rfl) (opn_int Tryz.underlying3).sized
  obtain ⟨r, h1, w1⟩ := opnS_field h hw Tryz.underlying103 1 1 4 rfl rfl rfl (by kernel_rfl) opnS_row
  obtain ⟨b, h2, _⟩ := opnS_field h hw Tryz.underlying103 2 5 1 rfl rfl rfl (by kernel_rfl) (opn_int Tryz.underlying2).sized
  simp only [List.drop_zero, List.drop_succ_cons, List.take_succ_cons, List.take_zero, List.cons.injEq, and_true, rowV] at h0 h1 h2
  obtain ⟨rfl, rfl, rfl, rfl⟩ := h1
  subst h0; subst h2
  exact ⟨⟨k, r, b⟩, rfl, w1⟩
theorem u64_back {i : Int} (h : lo .u64 ≤ i) : ((i.toNat : Nat) : Int) = i := by simp only [lo] at h; omega
theorem opnS_ckt : OpnS enc Tryz.prog w 81 (fun cs (x : CkT) => cs = ckTV x ∧ True) := fun fuel cs x h hw => by
  obtain ⟨hl, hf⟩ := opnS_fields Tryz.underlying81 h hw
  have hl : cs.length = 5 := by rw [hl]; kernel_rfl
  obtain ⟨c0, c1, c2, c3, c4, rfl⟩ : ∃ c0 c1 c2 c3 c4, cs = [c0, c1, c2, c3, c4] := by
    match cs, hl with
    | [c0, c1, c2, c3, c4], _ => exact ⟨c0, c1, c2, c3, c4, rfl⟩
  obtain ⟨k, h0, _⟩ := opnS_field h hw Tryz.underlying81 0 0 1 rfl rfl rfl (by kernel_rfl) (opn_int Tryz.underlying3).sized
  obtain ⟨f, h1, f0, f1⟩ := opnS_field h hw Tryz.underlying81 1 1 1 rfl rfl rfl (by kernel_rfl) (opn_int Tryz.underlying24).sized
  obtain ⟨l, h2, l0, l1⟩ := opnS_field h hw Tryz.underlying81 2 2 1 rfl rfl rfl (by kernel_rfl) (opn_int Tryz.underlying24).sized
  obtain ⟨u, h3, u0, u1⟩ := opnS_field h hw Tryz.underlying81 3 3 1 rfl rfl rfl (by kernel_rfl) (opn_int Tryz.underlying24).sized
  obtain ⟨s, h4, _⟩ := opnS_field h hw Tryz.underlying81 4 4 1 rfl rfl rfl (by kernel_rfl) (opn_int Tryz.underlying3).sized
  simp only [List.drop_zero, List.drop_succ_cons, List.take_succ_cons, List.take_zero, List.cons.injEq, and_true] at h0 h1 h2 h3 h4
  subst h0; subst h1; subst h2; subst h3; subst h4
  refine ⟨⟨k, f.toNat, l.toNat, u.toNat, s⟩, ?_, trivial⟩
  simp only [ckTV, u64_back f0, u64_back l0, u64_back u0]
theorem opnS_ckp : OpnS enc Tryz.prog w 125 (fun cs (x : CkP) => cs = ckPV x ∧ True) := fun fuel cs x h hw => by
  obtain ⟨hl, hf⟩ := opnS_fields Tryz.underlying125 h hw
  have hl : cs.length = 2 := by rw [hl]; kernel_rfl
  obtain ⟨c0, c1, rfl⟩ : ∃ c0 c1, cs = [c0, c1] := by
    match cs, hl with
    | [c0, c1], _ => exact ⟨c0, c1, rfl⟩
  obtain ⟨k, h0, _⟩ := opnS_field h hw Tryz.underlying125 0 0 1 rfl rfl rfl (by kernel_rfl) (opn_int Tryz.underlying3).sized
  obtain ⟨f, h1, f0, f1⟩ := opnS_field h hw Tryz.underlying125 1 1 1 rfl rfl rfl (by kernel_rfl) (opn_int Tryz.underlying24).sized
  simp only [List.drop_zero, List.drop_succ_cons, List.take_succ_cons, List.take_zero, List.cons.injEq, and_true] at h0 h1
  subst h0; subst h1
  refine ⟨⟨k, f.toNat⟩, ?_, trivial⟩
  simp only [ckPV, u64_back f0]
theorem opnS_rec : OpnS enc Tryz.prog w 30 (fun cs (x : RV × Rc) => cs = recV x.1 x.2 ∧ RcW (hpOf w) x.1 x.2) := fun fuel cs x h hw => by
  obtain ⟨hl, hf⟩ := opnS_fields Tryz.underlying30 h hw
  have hl : cs.length = 10 := by rw [hl]; kernel_rfl
  obtain ⟨c0, c1, c2, c3, c4, c5, c6, c7, c8, c9, rfl⟩ : ∃ c0 c1 c2 c3 c4 c5 c6 c7 c8 c9, cs = [c0, c1, c2, c3, c4, c5, c6, c7, c8, c9] := by
    match cs, hl with
    | [c0, c1, c2, c3, c4, c5, c6, c7, c8, c9], _ => exact ⟨c0, c1, c2, c3, c4, c5, c6, c7, c8, c9, rfl⟩
  obtain ⟨k, h0, _⟩ := opnS_field h hw Tryz.underlying30 0 0 1 rfl rfl rfl (by kernel_rfl) (opn_int Tryz.underlying3).sized
  obtain ⟨l, h1, l0, _⟩ := opnS_field h hw Tryz.underlying30 1 1 1 rfl rfl rfl (by kernel_rfl) (opn_int Tryz.underlying24).sized
  obtain ⟨t, h2, _⟩ := opnS_field h hw Tryz.underlying30 2 2 1 rfl rfl rfl (by kernel_rfl) (opn_int Tryz.underlying3).sized
  obtain ⟨p, h3, p0, _⟩ := opnS_field h hw Tryz.underlying30 3 3 1 rfl rfl rfl (by kernel_rfl) (opn_int Tryz.underlying24).sized
  obtain ⟨n, h4, n0, _⟩ := opnS_field h hw Tryz.underlying30 4 4 1 rfl rfl rfl (by kernel_rfl) (opn_int Tryz.underlying24).sized
  obtain ⟨⟨ia, inn, ic, ims⟩, h5, w5⟩ := opnS_field h hw Tryz.underlying30 5 5 1 rfl rfl rfl (by kernel_rfl) (opnS_slice (sz := 7) (by' := 120) Tryz.underlying25 (by kernel_rfl) (by decide) (by kernel_rfl) opnS_image)
  obtain ⟨⟨sa, sn, sc, steps⟩, h6, w6⟩ := opnS_field h hw Tryz.underlying30 6 6 1 rfl rfl rfl (by kernel_rfl) (opnS_slice (sz := 6) (by' := 56) Tryz.underlying26 (by kernel_rfl) (by decide) (by kernel_rfl) opnS_step)
  obtain ⟨x7, h7, _⟩ := opnS_field h hw Tryz.underlying30 7 7 1 rfl rfl rfl (by kernel_rfl) (opn_int Tryz.underlying3).sized
  obtain ⟨⟨ta, tn, tc, txns⟩, h8, w8⟩ := opnS_field h hw Tryz.underlying30 8 8 1 rfl rfl rfl (by kernel_rfl) (opnS_slice (sz := 5) (by' := 40) Tryz.underlying27 (by kernel_rfl) (by decide) (by kernel_rfl) opnS_ckt)
  obtain ⟨⟨da, dn, dc, dirty⟩, h9, w9⟩ := opnS_field h hw Tryz.underlying30 9 9 1 rfl rfl rfl (by kernel_rfl) (opnS_slice (sz := 2) (by' := 16) Tryz.underlying28 (by kernel_rfl) (by decide) (by kernel_rfl) opnS_ckp)
  obtain ⟨i1, i2, i3, _⟩ := aIn_ofW imV_len h5
  obtain ⟨s1, s2, s3, _⟩ := aIn_ofW stpV_len h6
  obtain ⟨t1, t2, t3, _⟩ := aIn_ofW ckTV_len h8
  obtain ⟨d1, d2, d3, _⟩ := aIn_ofW ckPV_len h9
  simp only [reachBytes] at w5 w6 w8 w9
  replace h5 := h5.cells
  replace h6 := h6.cells
  replace h8 := h8.cells
  replace h9 := h9.cells
  simp only [List.drop_zero, List.drop_succ_cons, List.take_succ_cons, List.take_zero, List.cons.injEq, and_true] at h0 h1 h2 h3 h4 h5 h6 h7 h8 h9
  subst h0; subst h1; subst h2; subst h3; subst h4; subst h5; subst h6; subst h7; subst h8; subst h9
  refine ⟨(⟨⟨ia, inn, ic⟩, ⟨sa, sn, sc⟩, ⟨ta, tn, tc⟩, ⟨da, dn, dc⟩⟩, ⟨k, l.toNat, t, p.toNat, n.toNat, ims, steps, x7, txns, dirty⟩), ?_, ⟨⟨i1, by dsimp only; omega, i3⟩, i2, ⟨s1, by dsimp only; omega, s3⟩, ⟨t1, by dsimp only; omega, t3⟩, ⟨d1, by dsimp only; omega, d3⟩, s2⟩⟩
  simp only [recV, u64_back l0, u64_back p0, u64_back n0]
end
end Go.Proofs.E

namespace Go.Proofs.E
open Go
set_option linter.unusedVariables false
set_option linter.unusedSimpArgs false
set_option linter.unusedSectionVars false
set_option maxRecDepth 4000
set_option maxHeartbeats 1000000
attribute [local irreducible] Yl TL TC TE Spec YSpec R1 Hp.le EnvLe TS TR YS Stays
-- BN
theorem sIn_litI {ρ : Hp} {b : Nat} {l : List Int} {T : TypeId} {fr : Nat × Nat} (h : ρ b = some (.cells ⟨l.map i64c⟩ T fr)) : SIn ρ i64c (some ⟨b, 0, none⟩) l.length l :=
  ⟨rfl, .inr ⟨b, 0, _, T, fr, rfl, h, by rw [List.drop_zero, List.take_of_length_le (by simp)]⟩⟩
theorem wk22a : touchE [] (chgR 7 [2, 5]) = 0 ∧ touchR [] (chgR 7 [2, 5]) = [⟨2, 7⟩, ⟨5, 7⟩] := by decide +kernel
theorem wk22b : touchE [⟨2, 7⟩, ⟨5, 7⟩] (chgR 9 [5, 6]) = 0 ∧ touchR [⟨2, 7⟩, ⟨5, 7⟩] (chgR 9 [5, 6]) = [⟨2, 7⟩, ⟨5, 7⟩, ⟨6, 9⟩] := by decide +kernel
theorem wk22c : cleanE 5 [⟨2, 7⟩, ⟨5, 7⟩, ⟨6, 9⟩] = 0 ∧ cleanR 5 [⟨2, 7⟩, ⟨5, 7⟩, ⟨6, 9⟩] = [⟨2, 7⟩, ⟨6, 9⟩] := by decide +kernel
theorem wk22d : makeE ⟨9, []⟩ [⟨2, 7⟩, ⟨6, 9⟩] 12 = 0 := by decide +kernel
theorem wk22e : cutN (makeR ⟨9, []⟩ [⟨2, 7⟩, ⟨6, 9⟩] 12) = 7 ∧ isE (makeR ⟨9, []⟩ [⟨2, 7⟩, ⟨6, 9⟩] 12) = 0 := by decide +kernel
theorem wk22f : needsB [⟨2, 7⟩, ⟨6, 9⟩] (chgR 7 [2]) 2 = true ∧ needsB [⟨2, 7⟩, ⟨6, 9⟩] (chgR 8 [6]) 6 = false := by decide +kernel
theorem wakes22_spec (ρ : Hp) : Spec Tryz.prog 13 [] ρ [] (fun v ρ' L' => v = .bool true ∧ ρ.le ρ' ∧ L' = []) := by
  have T1 := fun ρ v h hi => touch_spec ρ nilS [] AS.nil (by decide) v (chgR 7 [2, 5]) h hi
  have T2 := fun ρ s hs v h hi => touch_spec ρ s [⟨2, 7⟩, ⟨5, 7⟩] hs (by decide) v (chgR 9 [5, 6]) h hi
  have C3 := fun ρ s hs => clean_spec ρ s [⟨2, 7⟩, ⟨5, 7⟩, ⟨6, 9⟩] hs (by decide) 5
  have M4 := fun ρ s hs => make_spec ρ nilS ⟨9, []⟩ ⟨AS.nil, by simp⟩ s [⟨2, 7⟩, ⟨6, 9⟩] hs 12
  have K5 := fun ρ v h => cut_spec ρ v (makeR ⟨9, []⟩ [⟨2, 7⟩, ⟨6, 9⟩] 12) h
  have N6 := fun ρ s hs v h => needs_spec ρ s [⟨2, 7⟩, ⟨6, 9⟩] hs v (chgR 7 [2]) h 2
  have N7 := fun ρ s hs v h => needs_spec ρ s [⟨2, 7⟩, ⟨6, 9⟩] hs v (chgR 8 [6]) h 6
  simp only [wk22a.1, wk22a.2] at T1
  simp only [wk22b.1, wk22b.2] at T2
  simp only [wk22c.1, wk22c.2] at C3
  simp only [wk22d] at M4
  simp only [wk22e.1, wk22e.2] at K5
  simp only [wk22f.1] at N6
  simp only [wk22f.2] at N7
  refine spec_enter Tryz.func13 rfl rfl rfl fun u R => ?_
  simp only [argsE]
  repeat' (first | (refine tl_buildSlice_s rfl rfl rfl rfl (by simp) rfl rfl (fun bs => ?_); refine tl_freeze _ (h := Rem.here) (fun ρ2 hle2 hfz => ?_); have hbs := hfz _ (List.mem_singleton.2 rfl); clear hfz; have hρ : ρ.le ρ2 := (by first | exact hle2 | exact Hp.le_trans hρ (Hp.le_trans hl1 (Hp.le_trans hl2 hle2))); (try simp only [List.nil_append])) | (refine tl_is (.func 68) ?_; refine qC rfl rfl (change_spec _ 7 _ 2 2 [2, 5] (sIn_litI (l := [2, 5]) hbs) (by decide)) ?_; rintro v ρ' L' hle ⟨hl1, v1, rfl, hR1, hn1, rfl⟩ <;> (try simp only [kM, kN, kO])) | (refine tl_is (.func 67) ?_; refine qC rfl rfl (T1 _ v1 hR1 (by omega)) ?_; rintro v ρ' L' hle ⟨hl2, s1, rfl, hs1, rfl⟩ <;> (try simp only [kM, kN, kO])) | (refine tl_is (.func 68) ?_; refine qC rfl rfl (change_spec _ 9 _ 2 2 [5, 6] (sIn_litI (l := [5, 6]) hbs) (by decide)) ?_; rintro v ρ' L' hle ⟨hl3, v2, rfl, hR2, hn2, rfl⟩ <;> (try simp only [kM, kN, kO])) | (refine tl_is (.func 67) ?_; refine qC rfl rfl (T2 _ s1 (hs1.mono (Hp.le_trans hle2 hl3)) v2 hR2 (by omega)) ?_; rintro v ρ' L' hle ⟨hl4, s2, rfl, hs2, rfl⟩ <;> (try simp only [kM, kN, kO])) | (refine tl_is (.func 69) ?_; refine qC rfl rfl (C3 _ s2 hs2) ?_; rintro v ρ' L' hle ⟨hl5, s3, rfl, hs3, rfl⟩ <;> (try simp only [kM, kN, kO])) | (refine tl_is (.func 70) ?_; refine qC rfl rfl (M4 _ s3 hs3) ?_; rintro v ρ' L' hle ⟨hl6, v3, rfl, hR3, rfl⟩ <;> (try simp only [kM, kN, kO])) | (refine tl_is (.func 17) ?_; refine qC rfl rfl (K5 _ v3 hR3) ?_; rintro v ρ' L' hle ⟨hl7, rfl, rfl⟩ <;> (try simp only [kM, kN, kO])) | (refine iBu ?_; refine tl_y (y_buildN rfl) rfl rfl ?_) | (refine i_op ?_; first | (refine i_qq ?_; refine qQ ?_) | refine qEf ?_) | refine tl_nil ?_ | (refine i_tc ?_; refine qTc ?_) | (refine i_te ?_; refine qTe ?_) | intro _)
  have hρ := Hp.le_trans hρ (Hp.le_trans hl3 (Hp.le_trans hl4 (Hp.le_trans hl5 (Hp.le_trans hl6 hl7))))
  have hs4 := hs3.mono (Hp.le_trans hl6 hl7)
  have hlen4 := hs4.at'.len
  obtain ⟨b, off, C, T, fr, f1, hb, hfit, hc⟩ := hs4.at'.get (show 1 < ([⟨2, 7⟩, ⟨6, 9⟩] : List CkP).length by decide)
  obtain ⟨a4, n4, c4⟩ := s3
  dsimp only at f1 hlen4 hs4 ⊢
  simp only [List.length_cons, List.length_nil] at hlen4
  obtain rfl : n4 = 2 := by omega
  simp only [List.getElem_cons_succ, List.getElem_cons_zero] at hc
  subst f1
  repeat' (first | (refine tl_buildSlice_s rfl rfl rfl rfl (by simp) rfl rfl (fun bs => ?_); refine tl_freeze _ (h := Rem.here) (fun ρ2 hle2 hfz => ?_); have hbs := hfz _ (List.mem_singleton.2 rfl); clear hfz; have hs4 := hs4.mono (show Hp.le _ ρ2 by first | exact hle2 | exact Hp.le_trans hl8 hle2); have hρ : ρ.le ρ2 := (by first | exact Hp.le_trans hρ hle2 | exact Hp.le_trans hρ (Hp.le_trans hl8 hle2)); (try simp only [List.nil_append])) | (refine tl_is (.func 68) ?_; refine qC rfl rfl (change_spec _ 7 _ 1 1 [2] (sIn_litI (l := [2]) hbs) (by decide)) ?_; rintro v ρ' L' hle ⟨hl8, v5, rfl, hR5, hn5, rfl⟩ <;> (try simp only [kM, kN, kO])) | (refine tl_is (.func 68) ?_; refine qC rfl rfl (change_spec _ 8 _ 1 1 [6] (sIn_litI (l := [6]) hbs) (by decide)) ?_; rintro v ρ' L' hle ⟨hl9, v6, rfl, hR6, hn6, rfl⟩ <;> (try simp only [kM, kN, kO])) | (refine tl_is (.func 71) ?_; refine qC rfl rfl (N6 _ ⟨_, 2, c4⟩ (hs4.mono hl8) v5 hR5) ?_; rintro v ρ' L' hle ⟨rfl, rfl, rfl⟩ <;> (try simp only [kM, kN, kO])) | (refine tl_is (.func 71) ?_; refine qC rfl rfl (N7 _ ⟨_, 2, c4⟩ (hs4.mono hl9) v6 hR6) ?_; rintro v ρ' L' hle ⟨rfl, rfl, rfl⟩ <;> (try simp only [kM, kN, kO])) | (refine iBu ?_; refine tl_y (y_buildN rfl) rfl rfl ?_) | (refine i_op ?_; first | (refine i_qq ?_; refine qQ ?_) | refine qEf ?_) | refine tl_nil ?_ | (refine i_tc ?_; refine qTc ?_) | (refine i_te ?_; refine qTe ?_) | intro _)
  exact qE (L' := []) ⟨rfl, Hp.le_trans hρ hl9, rfl⟩ (hle := Hp.le_trans hρ hl9)
end Go.Proofs.E

namespace Go.Proofs.E
open Go
set_option linter.unusedVariables false
set_option linter.unusedSimpArgs false
set_option linter.unusedSectionVars false
set_option maxRecDepth 4000
set_option maxHeartbeats 1000000
attribute [local irreducible] Yl TL TC TE Spec YSpec R1 Hp.le EnvLe TS TR YS Stays
-- BN
/-! ## the document's records: which may be -/
theorem rpage12_spec (ρ : Hp) (n : Int) : Spec Tryz.prog 177 [.int .i64 n] ρ [] (fun v ρ' L' => v = .bool (pageOk n) ∧ ρ' = ρ ∧ L' = []) := by
  refine spec_enter Tryz.func177 rfl rfl rfl fun u R => ?_
  simp only [argsE, List.cons_append, List.nil_append]
  repeat' (first | (refine iBu ?_; refine tl_y (y_buildN rfl) rfl rfl ?_) | (refine i_op ?_; first | (refine i_qq ?_; refine qQ ?_) | refine qEf ?_) | refine tl_nil ?_ | (refine i_tc ?_; refine qTc ?_) | (refine i_te ?_; refine qTe ?_) | (refine i_gd ?_; refine tl_guard rfl rfl (fun hb => ?_) (fun hb => ?_) <;> (try simp only [decide_eq_true_eq, decide_eq_false_iff_not, Bool.not_eq_true, Bool.not_eq_false, beq_iff_eq, bne_iff_ne, ne_eq, decide_eq_decide, Bool.not_eq_eq_eq_not, Bool.not_true, Bool.not_false, beq_eq_false_iff_ne, bne_eq_false_iff_eq, Bool.and_eq_true, Bool.or_eq_true, Bool.and_eq_false_imp, Bool.or_eq_false_iff, bq2, bqt, bqf] at hb)) | (refine i_cond ?_; refine tc_cond rfl (fun hb => ?_) (fun hb => ?_) <;> (try simp only [decide_eq_true_eq, decide_eq_false_iff_not, Bool.not_eq_true, Bool.not_eq_false, beq_iff_eq, bne_iff_ne, ne_eq, decide_eq_decide, Bool.not_eq_eq_eq_not, Bool.not_true, Bool.not_false, beq_eq_false_iff_ne, bne_eq_false_iff_eq, Bool.and_eq_true, Bool.or_eq_true, Bool.and_eq_false_imp, Bool.or_eq_false_iff, bq2, bqt, bqf] at hb)) | intro _)
  all_goals (refine qF (L' := []) ?_; exact ⟨bool_eq (by simp [pageOk]; (try omega)), rfl, rfl⟩)
theorem step12_spec (ρ : Hp) (s : Stp) (hf : RowFit s.row) : Spec Tryz.prog 179 [.agg ⟨stpV s⟩] ρ [] (fun v ρ' L' => v = .bool (stepOk s) ∧ ρ' = ρ ∧ L' = []) := by
  obtain ⟨kind, row, bb⟩ := s
  have hck := rightRow_spec ρ row
  have ho := rowV_only row
  unfold stepOk onlyOk
  dsimp only
  generalize hP : decide (row.val = 0 ∧ row.note = []) = P at *
  generalize hQ : rowOk row = Q at *
  refine spec_enter Tryz.func179 rfl rfl rfl fun u R => ?_
  simp only [argsE, List.cons_append, List.nil_append]
  cases P <;> cases Q
  all_goals (repeat' (first | (refine iBu ?_; refine tl_y (v := .agg ⟨rowV ⟨row.t, row.id, 0, []⟩⟩) (y_build rfl rfl) rfl rfl ?_) | (refine iCm ?_; refine tl_y (y_eqc_l rfl rfl ho) rfl rfl ?_) | (refine tl_is (.func 247) ?_; refine qC rfl rfl (hck) ?_; rintro v ρ' L' hle ⟨rfl, rfl, rfl⟩ <;> (try simp only [kM, kN, kO])) | (refine iBu ?_; refine tl_y (y_buildN rfl) rfl rfl ?_) | (refine i_op ?_; first | (refine i_qq ?_; refine qQ ?_) | refine qEf ?_) | refine tl_nil ?_ | (refine i_tc ?_; refine qTc ?_) | (refine i_te ?_; refine qTe ?_) | (refine i_gd ?_; refine tl_guard rfl rfl (fun hb => ?_) (fun hb => ?_) <;> (try simp only [decide_eq_true_eq, decide_eq_false_iff_not, Bool.not_eq_true, Bool.not_eq_false, beq_iff_eq, bne_iff_ne, ne_eq, decide_eq_decide, Bool.not_eq_eq_eq_not, Bool.not_true, Bool.not_false, beq_eq_false_iff_ne, bne_eq_false_iff_eq, Bool.and_eq_true, Bool.or_eq_true, Bool.and_eq_false_imp, Bool.or_eq_false_iff, bq2, bqt, bqf] at hb)) | (refine i_cond ?_; refine tc_cond rfl (fun hb => ?_) (fun hb => ?_) <;> (try simp only [decide_eq_true_eq, decide_eq_false_iff_not, Bool.not_eq_true, Bool.not_eq_false, beq_iff_eq, bne_iff_ne, ne_eq, decide_eq_decide, Bool.not_eq_eq_eq_not, Bool.not_true, Bool.not_false, beq_eq_false_iff_ne, bne_eq_false_iff_eq, Bool.and_eq_true, Bool.or_eq_true, Bool.and_eq_false_imp, Bool.or_eq_false_iff, bq2, bqt, bqf] at hb)) | intro _))
  all_goals (refine qF (L' := []) ?_; exact ⟨bool_eq (by clear ho hck; (repeat' split) <;> simp_all <;> omega), rfl, rfl⟩)
theorem steps12_spec (ρ : Hp) (s : SV) (l : List Stp) (h : AS ρ 6 stpV s l) (hf : ∀ x ∈ l, RowFit x.row) : Spec Tryz.prog 96 [.slice s.a s.n s.c] ρ [] (fun v ρ' L' => v = .bool (decide (0 < l.length ∧ l.length ≤ 2) && l.all stepOk) ∧ ρ' = ρ ∧ L' = []) := by
  have hl := h.at'.len
  have hn := h.big
  have hA := h.at'
  rw [hl]
  generalize hq : l.all stepOk = q
  refine spec_enter Tryz.func96 rfl rfl rfl fun u R => ?_
  simp only [argsE, List.cons_append, List.nil_append]
  repeat' (first | (refine iBu ?_; refine tl_y (y_buildN rfl) rfl rfl ?_) | (refine i_op ?_; first | (refine i_qq ?_; refine qQ ?_) | refine qEf ?_) | refine tl_nil ?_ | (refine i_tc ?_; refine qTc ?_) | (refine i_te ?_; refine qTe ?_) | intro _)
  refine tc_loop_g [(0, _), (5, _), (6, _)] (fun (ζ : (Nat)) => [(7, .int .i64 ζ), (2, .bool false)]) (fun (ζ : (Nat)) => ρ) (fun (ζ : (Nat)) => []) (fun (ζ : (Nat)) => ζ ≤ s.n ∧ (l.drop ζ).all stepOk = q) (fun (ζ : (Nat)) => s.n - ζ) (0) (⟨Nat.zero_le _, hq⟩) ev_le ev_le rfl tk ?_
  rintro k hI
  try simp only [List.cons_append, List.nil_append, List.append_assoc, List.append_eq] at hI ⊢
  try dsimp only at hI ⊢
  obtain ⟨hk, hok⟩ := hI
  by_cases hlt : k < s.n
  · obtain ⟨b, off, C, T, fr, e1, hb, hfit, hc⟩ := hA.get (show k < l.length by omega)
    have hmem := List.getElem_mem (show k < l.length by omega)
    rw [List.drop_eq_getElem_cons (show k < l.length by omega), List.all_cons] at hok
    generalize l[k]'(by omega) = x at *
    have hst := step12_spec ρ x (hf x hmem)
    rw [e1]
    cases hx : stepOk x
    · rw [hx, Bool.false_and] at hok
      rw [hx] at hst
      subst hok
      rw [Bool.and_false]
      repeat' (first | (refine tl_is (.func 179) ?_; refine qC rfl rfl (hst) ?_; rintro v ρ' L' hle ⟨rfl, rfl, rfl⟩ <;> (try simp only [kM, kN, kO])) | (refine iBu ?_; refine tl_y (y_buildN rfl) rfl rfl ?_) | (refine i_op ?_; first | (refine i_qq ?_; refine qQ ?_) | refine qEf ?_) | refine tl_nil ?_ | (refine i_tc ?_; refine qTc ?_) | (refine i_te ?_; refine qTe ?_) | intro _)
      exact qE (L' := []) ⟨rfl, rfl, rfl⟩
    · rw [hx, Bool.true_and] at hok
      rw [hx] at hst
      repeat' (first | (refine tl_is (.func 179) ?_; refine qC rfl rfl (hst) ?_; rintro v ρ' L' hle ⟨rfl, rfl, rfl⟩ <;> (try simp only [kM, kN, kO])) | (refine iBu ?_; refine tl_y (y_buildN rfl) rfl rfl ?_) | (refine i_op ?_; first | (refine i_qq ?_; refine qQ ?_) | refine qEf ?_) | refine tl_nil ?_ | (refine i_tc ?_; refine qTc ?_) | (refine i_te ?_; refine qTe ?_) | intro _)
      rw [← e1]
      refine te_round_g (k + 1) (⟨hlt, hok⟩) ev_le ev_le rfl tk inferInstance (by first | omega | (dsimp only; omega))
  · have hk2 : k = l.length := by omega
    rw [hk2, List.drop_length, List.all_nil] at hok
    subst hok
    rw [Bool.and_true]
    repeat' (first | (refine iBu ?_; refine tl_y (y_buildN rfl) rfl rfl ?_) | (refine i_op ?_; first | (refine i_qq ?_; refine qQ ?_) | refine qEf ?_) | refine tl_nil ?_ | (refine i_tc ?_; refine qTc ?_) | (refine i_te ?_; refine qTe ?_) | (refine i_gd ?_; refine tl_guard rfl rfl (fun hb => ?_) (fun hb => ?_) <;> (try simp only [decide_eq_true_eq, decide_eq_false_iff_not, Bool.not_eq_true, Bool.not_eq_false, beq_iff_eq, bne_iff_ne, ne_eq, decide_eq_decide, Bool.not_eq_eq_eq_not, Bool.not_true, Bool.not_false, beq_eq_false_iff_ne, bne_eq_false_iff_eq, Bool.and_eq_true, Bool.or_eq_true, Bool.and_eq_false_imp, Bool.or_eq_false_iff, bq2, bqt, bqf] at hb)) | (refine i_cond ?_; refine tc_cond rfl (fun hb => ?_) (fun hb => ?_) <;> (try simp only [decide_eq_true_eq, decide_eq_false_iff_not, Bool.not_eq_true, Bool.not_eq_false, beq_iff_eq, bne_iff_ne, ne_eq, decide_eq_decide, Bool.not_eq_eq_eq_not, Bool.not_true, Bool.not_false, beq_eq_false_iff_ne, bne_eq_false_iff_eq, Bool.and_eq_true, Bool.or_eq_true, Bool.and_eq_false_imp, Bool.or_eq_false_iff, bq2, bqt, bqf] at hb)) | intro _)
    all_goals (refine qF (L' := []) ?_; exact ⟨bool_eq (by (try simp [*]); first | done | omega | (intros; omega) | (constructor <;> intros <;> (try simp_all) <;> omega)), rfl, rfl⟩)
end Go.Proofs.E

