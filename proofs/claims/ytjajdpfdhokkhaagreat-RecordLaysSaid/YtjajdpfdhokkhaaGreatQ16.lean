/- The law RecordLays. Part 16 of 21. -/
import Derived.Test.YtjajdpfdhokkhaaGreatQ15
namespace Go.Proofs.E
open Go
set_option linter.unusedVariables false
set_option linter.unusedSimpArgs false
set_option linter.unusedSectionVars false
set_option maxRecDepth 4000
set_option maxHeartbeats 1000000
attribute [local irreducible] Yl TL TC TE Spec YSpec R1 Hp.le EnvLe TS TR YS Stays
-- BN
/-! ## are two records one -/
def imEq (x y : Im) : Bool := decide (x.page = y.page) && (decide (x.b = y.b) && decide (x.a = y.a))
theorem imEq_iff {x y : Im} : imEq x y = true ↔ x.plain = y.plain := by
  obtain ⟨p, bv, b, av, a⟩ := x
  obtain ⟨p', bv', b', av', a'⟩ := y
  unfold imEq
  simp [Im.plain, Bool.and_eq_true]
theorem same1_im_spec (ρ : Hp) (x y : Im) (hx : Im.In ρ x) (hy : Im.In ρ y) : Spec Tryz.prog 110 [.agg ⟨imV x⟩, .agg ⟨imV y⟩] ρ [] (fun z ρ' L' => z = .bool (imEq x y) ∧ ρ' = ρ ∧ L' = []) := by
  have h1 := same_spec ρ x.bv y.bv x.b y.b hx.b.cin hy.b.cin
  have h2 := same_spec ρ x.av y.av x.a y.a hx.a.cin hy.a.cin
  unfold imEq
  refine spec_enter Tryz.func110 rfl rfl rfl fun u R => ?_
  simp only [argsE, List.cons_append, List.nil_append]
  by_cases hp : x.page = y.page
  · rw [decide_eq_true hp, Bool.true_and]
    generalize decide (x.b = y.b) = b1 at *
    generalize decide (x.a = y.a) = b2 at *
    cases b1
    · repeat' (first | (refine tl_is (.func 111) ?_; refine qC rfl rfl (h1) ?_; rintro v ρ' L' hle ⟨rfl, rfl, rfl⟩ <;> (try simp only [kM, kN, kO])) | (refine iBu ?_; refine tl_y (y_buildN rfl) rfl rfl ?_) | (refine i_op ?_; first | (refine i_qq ?_; refine qQ ?_) | refine qEf ?_) | refine tl_nil ?_ | (refine i_tc ?_; refine qTc ?_) | (refine i_te ?_; refine qTe ?_) | intro _)
      exact qE (L' := []) ⟨rfl, rfl, rfl⟩
    · repeat' (first | (refine tl_is (.func 111) ?_; refine qC rfl rfl (h1) ?_; rintro v ρ' L' hle ⟨rfl, rfl, rfl⟩ <;> (try simp only [kM, kN, kO])) | (refine tl_is (.func 111) ?_; refine qC rfl rfl (h2) ?_; rintro v ρ' L' hle ⟨rfl, rfl, rfl⟩ <;> (try simp only [kM, kN, kO])) | (refine iBu ?_; refine tl_y (y_buildN rfl) rfl rfl ?_) | (refine i_op ?_; first | (refine i_qq ?_; refine qQ ?_) | refine qEf ?_) | refine tl_nil ?_ | (refine i_tc ?_; refine qTc ?_) | (refine i_te ?_; refine qTe ?_) | intro _)
      exact qE (L' := []) ⟨rfl, rfl, rfl⟩
  · rw [decide_eq_false hp, Bool.false_and]
    repeat' (first | (refine iBu ?_; refine tl_y (y_buildN rfl) rfl rfl ?_) | (refine i_op ?_; first | (refine i_qq ?_; refine qQ ?_) | refine qEf ?_) | refine tl_nil ?_ | (refine i_tc ?_; refine qTc ?_) | (refine i_te ?_; refine qTe ?_) | intro _)
    exact qE (L' := []) ⟨rfl, rfl, rfl⟩
theorem says_plain (l : List Im) : l.map Im.plain = (l.map Im.says).map (fun t => ⟨t.1, nilCV, t.2.1, nilCV, t.2.2⟩) := by rw [List.map_map]; rfl
theorem plain_says (l : List Im) : l.map Im.says = (l.map Im.plain).map Im.says := by rw [List.map_map]; rfl
theorem says_iff {l m : List Im} : l.map Im.says = m.map Im.says ↔ l.map Im.plain = m.map Im.plain := ⟨fun e => by rw [says_plain l, says_plain m, e], fun e => by rw [plain_says l, plain_says m, e]⟩
theorem map_take_succ {α β : Type} (f : α → β) (l : List α) (k : Nat) (h : k < l.length) : (l.map f).take (k + 1) = (l.map f).take k ++ [f l[k]] := by
  rw [List.take_succ_eq_append_getElem (show k < (l.map f).length by simpa using h)]
  simp
theorem eqIM_spec (ρ : Hp) (s s' : SV) (l m : List Im) (h : AS ρ 7 imV s l) (h' : AS ρ 7 imV s' m) (hi : ∀ x ∈ l, Im.In ρ x) (hi' : ∀ x ∈ m, Im.In ρ x) :
    Spec Tryz.prog 109 [.slice s.a s.n s.c, .slice s'.a s'.n s'.c, .func (.func 110) ⟨[]⟩ ⟨[]⟩] ρ [] (fun v ρ' L' => v = .bool (decide (l.map Im.says = m.map Im.says)) ∧ ρ' = ρ ∧ L' = []) := by
  have hl := h.at'.len
  have hm := h'.at'.len
  have hn := h.big
  refine spec_enter Tryz.func109 rfl rfl rfl fun u R => ?_
  simp only [argsE, List.cons_append, List.nil_append]
  by_cases hne : s.n = s'.n
  · repeat' (first | (refine iBu ?_; refine tl_y (y_buildN rfl) rfl rfl ?_) | (refine i_op ?_; first | (refine i_qq ?_; refine qQ ?_) | refine qEf ?_) | refine tl_nil ?_ | (refine i_tc ?_; refine qTc ?_) | (refine i_te ?_; refine qTe ?_) | intro _)
    refine tc_loop_g [(1, _), (2, _), (15, _), (16, _)] (fun (ζ : (Nat)) => [(17, .int .i64 ζ), (6, .bool false)]) (fun (ζ : (Nat)) => ρ) (fun (ζ : (Nat)) => []) (fun (ζ : (Nat)) => ζ ≤ s.n ∧ (l.map Im.plain).take ζ = (m.map Im.plain).take ζ) (fun (ζ : (Nat)) => s.n - ζ) (0) (⟨Nat.zero_le _, rfl⟩) ev_le ev_le rfl tk ?_
    rintro k hI
    try simp only [List.cons_append, List.nil_append, List.append_assoc, List.append_eq] at hI ⊢
    try dsimp only at hI ⊢
    obtain ⟨hk, hpre⟩ := hI
    by_cases hlt : k < s.n
    · obtain ⟨b, off, C, T, fr, f1, hb, hfit, hc⟩ := h.at'.get (show k < l.length by omega)
      obtain ⟨b2, off2, C2, T2, fr2, f2, hb2, hfit2, hc2⟩ := h'.at'.get (show k < m.length by omega)
      have ht1 := map_take_succ Im.plain l k (by omega)
      have ht2 := map_take_succ Im.plain m k (by omega)
      have hf : l.map Im.plain = m.map Im.plain → (l[k]'(by omega)).plain = (m[k]'(by omega)).plain := fun e => by
        have g1 : (l.map Im.plain)[k]? = some (l[k]'(by omega)).plain := by simp [show k < l.length by omega]
        have g2 : (m.map Im.plain)[k]? = some (m[k]'(by omega)).plain := by simp [show k < m.length by omega]
        rw [e, g2] at g1
        exact (Option.some.inj g1).symm
      have hs1 := same1_im_spec ρ (l[k]'(by omega)) (m[k]'(by omega)) (hi _ (List.getElem_mem _)) (hi' _ (List.getElem_mem _))
      generalize l[k]'(by omega) = x at *
      generalize m[k]'(by omega) = y at *
      rw [f1, f2]
      cases he : imEq x y
      · have hd : decide (l.map Im.says = m.map Im.says) = false := decide_eq_false (fun e => by
          have := imEq_iff.2 (hf (says_iff.1 e))
          rw [he] at this; cases this)
        rw [hd]
        rw [he] at hs1
        repeat' (first | (refine tl_is (.tmp 26) ?_; refine qC rfl rfl (hs1) ?_; rintro v ρ' L' hle ⟨rfl, rfl, rfl⟩ <;> (try simp only [kM, kN, kO])) | (refine iBu ?_; refine tl_y (y_buildN rfl) rfl rfl ?_) | (refine i_op ?_; first | (refine i_qq ?_; refine qQ ?_) | refine qEf ?_) | refine tl_nil ?_ | (refine i_tc ?_; refine qTc ?_) | (refine i_te ?_; refine qTe ?_) | intro _)
        exact qE (L' := []) ⟨rfl, rfl, rfl⟩
      · have hpre2 : (l.map Im.plain).take (k + 1) = (m.map Im.plain).take (k + 1) := by rw [ht1, ht2, hpre, imEq_iff.1 he]
        rw [he] at hs1
        repeat' (first | (refine tl_is (.tmp 26) ?_; refine qC rfl rfl (hs1) ?_; rintro v ρ' L' hle ⟨rfl, rfl, rfl⟩ <;> (try simp only [kM, kN, kO])) | (refine iBu ?_; refine tl_y (y_buildN rfl) rfl rfl ?_) | (refine i_op ?_; first | (refine i_qq ?_; refine qQ ?_) | refine qEf ?_) | refine tl_nil ?_ | (refine i_tc ?_; refine qTc ?_) | (refine i_te ?_; refine qTe ?_) | intro _)
        rw [← f1, ← f2]
        refine te_round_g (k + 1) (⟨hlt, hpre2⟩) ev_le ev_le rfl tk inferInstance (by first | omega | (dsimp only; omega))
    · have hk2 : k = s.n := by omega
      subst hk2
      rw [List.take_of_length_le (by simp; omega), List.take_of_length_le (by simp; omega)] at hpre
      rw [decide_eq_true (says_iff.2 hpre)]
      repeat' (first | (refine iBu ?_; refine tl_y (y_buildN rfl) rfl rfl ?_) | (refine i_op ?_; first | (refine i_qq ?_; refine qQ ?_) | refine qEf ?_) | refine tl_nil ?_ | (refine i_tc ?_; refine qTc ?_) | (refine i_te ?_; refine qTe ?_) | intro _)
      exact qE ⟨rfl, rfl, rfl⟩
  · rw [decide_eq_false (fun e : l.map Im.says = m.map Im.says => hne (by have := congrArg List.length e; simp at this; omega))]
    repeat' (first | (refine iBu ?_; refine tl_y (y_buildN rfl) rfl rfl ?_) | (refine i_op ?_; first | (refine i_qq ?_; refine qQ ?_) | refine qEf ?_) | refine tl_nil ?_ | (refine i_tc ?_; refine qTc ?_) | (refine i_te ?_; refine qTe ?_) | intro _)
    exact qE ⟨rfl, rfl, rfl⟩
theorem plain_eq {x y : Rc} (h1 : x.kind = y.kind ∧ x.lsn = y.lsn ∧ x.txn = y.txn ∧ x.prev = y.prev ∧ x.next = y.next ∧ x.nextTxn = y.nextTxn) : x.plain = y.plain ↔ (x.steps = y.steps ∧ x.txns = y.txns ∧ x.dirty = y.dirty ∧ x.ims.map Im.plain = y.ims.map Im.plain) := by
  obtain ⟨k, l, t, p, n, i, s, nt, ts, d⟩ := x
  obtain ⟨k', l', t', p', n', i', s', nt', ts', d'⟩ := y
  dsimp only at h1
  obtain ⟨rfl, rfl, rfl, rfl, rfl, rfl⟩ := h1
  dsimp only [Rc.plain]
  constructor
  · intro h
    injection h with a1 a2 a3 a4 a5 a6 a7 a8 a9 a10
    exact ⟨a7, a9, a10, a6⟩
  · rintro ⟨rfl, rfl, rfl, e⟩
    rw [e]
theorem recSameG_spec (ρ : Hp) (v v' : RV) (x y : Rc) (h : RcIn ρ v x) (h' : RcIn ρ v' y) : Spec Tryz.prog 28 [.agg ⟨recV v x⟩, .agg ⟨recV v' y⟩] ρ [] (fun z ρ' L' => (∃ b, z = .bool b ∧ (b = true ↔ x.plain = y.plain)) ∧ ρ' = ρ ∧ L' = []) := by
  have h1 := eqSTP_spec ρ v.s v'.s x.steps y.steps h.s h'.s
  have h2 := eqCKT_spec ρ v.t v'.t x.txns y.txns h.t h'.t
  have h3 := eqCKP_spec ρ v.d v'.d x.dirty y.dirty h.d h'.d
  have h4 := eqIM_spec ρ v.i v'.i x.ims y.ims h.i h'.i h.im h'.im
  refine spec_enter Tryz.func28 rfl rfl rfl fun u R => ?_
  simp only [argsE, List.cons_append, List.nil_append]
  by_cases e : x.kind = y.kind ∧ x.lsn = y.lsn ∧ x.txn = y.txn ∧ x.prev = y.prev ∧ x.next = y.next ∧ x.nextTxn = y.nextTxn
  · have hp := plain_eq e
    obtain ⟨e1, e2, e3, e4, e5, e6⟩ := e
    by_cases d1 : x.steps = y.steps
    · rw [decide_eq_true d1] at h1
      by_cases d2 : x.txns = y.txns
      · rw [decide_eq_true d2] at h2
        by_cases d3 : x.dirty = y.dirty
        · rw [decide_eq_true d3] at h3
          repeat' (first | (refine tl_is (.func 106) ?_; refine qC rfl rfl (h1) ?_; rintro v ρ' L' hle ⟨rfl, rfl, rfl⟩ <;> (try simp only [kM, kN, kO])) | (refine tl_is (.func 107) ?_; refine qC rfl rfl (h2) ?_; rintro v ρ' L' hle ⟨rfl, rfl, rfl⟩ <;> (try simp only [kM, kN, kO])) | (refine tl_is (.func 108) ?_; refine qC rfl rfl (h3) ?_; rintro v ρ' L' hle ⟨rfl, rfl, rfl⟩ <;> (try simp only [kM, kN, kO])) | (refine tl_is (.func 109) ?_; refine qC rfl rfl (h4) ?_; rintro v ρ' L' hle ⟨rfl, rfl, rfl⟩ <;> (try simp only [kM, kN, kO])) | (refine iBu ?_; refine tl_y (y_buildN rfl) rfl rfl ?_) | (refine i_op ?_; first | (refine i_qq ?_; refine qQ ?_) | refine qEf ?_) | refine tl_nil ?_ | (refine i_tc ?_; refine qTc ?_) | (refine i_te ?_; refine qTe ?_) | intro _)
          refine qE (L' := []) ⟨⟨_, rfl, ?_⟩, rfl, rfl⟩
          rw [hp, decide_eq_true_eq, says_iff]
          exact ⟨fun e => ⟨d1, d2, d3, e⟩, fun e => e.2.2.2⟩
        · rw [decide_eq_false d3] at h3
          repeat' (first | (refine tl_is (.func 106) ?_; refine qC rfl rfl (h1) ?_; rintro v ρ' L' hle ⟨rfl, rfl, rfl⟩ <;> (try simp only [kM, kN, kO])) | (refine tl_is (.func 107) ?_; refine qC rfl rfl (h2) ?_; rintro v ρ' L' hle ⟨rfl, rfl, rfl⟩ <;> (try simp only [kM, kN, kO])) | (refine tl_is (.func 108) ?_; refine qC rfl rfl (h3) ?_; rintro v ρ' L' hle ⟨rfl, rfl, rfl⟩ <;> (try simp only [kM, kN, kO])) | (refine iBu ?_; refine tl_y (y_buildN rfl) rfl rfl ?_) | (refine i_op ?_; first | (refine i_qq ?_; refine qQ ?_) | refine qEf ?_) | refine tl_nil ?_ | (refine i_tc ?_; refine qTc ?_) | (refine i_te ?_; refine qTe ?_) | intro _)
          exact qE (L' := []) ⟨⟨false, rfl, by simp, fun e => absurd (hp.1 e).2.2.1 d3⟩, rfl, rfl⟩
      · rw [decide_eq_false d2] at h2
        repeat' (first | (refine tl_is (.func 106) ?_; refine qC rfl rfl (h1) ?_; rintro v ρ' L' hle ⟨rfl, rfl, rfl⟩ <;> (try simp only [kM, kN, kO])) | (refine tl_is (.func 107) ?_; refine qC rfl rfl (h2) ?_; rintro v ρ' L' hle ⟨rfl, rfl, rfl⟩ <;> (try simp only [kM, kN, kO])) | (refine iBu ?_; refine tl_y (y_buildN rfl) rfl rfl ?_) | (refine i_op ?_; first | (refine i_qq ?_; refine qQ ?_) | refine qEf ?_) | refine tl_nil ?_ | (refine i_tc ?_; refine qTc ?_) | (refine i_te ?_; refine qTe ?_) | intro _)
        exact qE (L' := []) ⟨⟨false, rfl, by simp, fun e => absurd (hp.1 e).2.1 d2⟩, rfl, rfl⟩
    · rw [decide_eq_false d1] at h1
      repeat' (first | (refine tl_is (.func 106) ?_; refine qC rfl rfl (h1) ?_; rintro v ρ' L' hle ⟨rfl, rfl, rfl⟩ <;> (try simp only [kM, kN, kO])) | (refine iBu ?_; refine tl_y (y_buildN rfl) rfl rfl ?_) | (refine i_op ?_; first | (refine i_qq ?_; refine qQ ?_) | refine qEf ?_) | refine tl_nil ?_ | (refine i_tc ?_; refine qTc ?_) | (refine i_te ?_; refine qTe ?_) | intro _)
      exact qE (L' := []) ⟨⟨false, rfl, by simp, fun e => absurd (hp.1 e).1 d1⟩, rfl, rfl⟩
  · have hp : x.plain ≠ y.plain := fun h => e (by
      injection h with a1 a2 a3 a4 a5 a6 a7 a8 a9 a10
      exact ⟨a1, a2, a3, a4, a5, a8⟩)
    repeat' (first | (refine iBu ?_; refine tl_y (y_buildN rfl) rfl rfl ?_) | (refine i_op ?_; first | (refine i_qq ?_; refine qQ ?_) | refine qEf ?_) | refine tl_nil ?_ | (refine i_tc ?_; refine qTc ?_) | (refine i_te ?_; refine qTe ?_) | (refine i_gd ?_; refine tl_guard rfl rfl (fun hb => ?_) (fun hb => ?_) <;> (try simp only [decide_eq_true_eq, decide_eq_false_iff_not, Bool.not_eq_true, Bool.not_eq_false, beq_iff_eq, bne_iff_ne, ne_eq, decide_eq_decide, Bool.not_eq_eq_eq_not, Bool.not_true, Bool.not_false, beq_eq_false_iff_ne, bne_eq_false_iff_eq, Bool.and_eq_true, Bool.or_eq_true, Bool.and_eq_false_imp, Bool.or_eq_false_iff, bq2, bqt, bqf] at hb)) | (refine i_cond ?_; refine tc_cond rfl (fun hb => ?_) (fun hb => ?_) <;> (try simp only [decide_eq_true_eq, decide_eq_false_iff_not, Bool.not_eq_true, Bool.not_eq_false, beq_iff_eq, bne_iff_ne, ne_eq, decide_eq_decide, Bool.not_eq_eq_eq_not, Bool.not_true, Bool.not_false, beq_eq_false_iff_ne, bne_eq_false_iff_eq, Bool.and_eq_true, Bool.or_eq_true, Bool.and_eq_false_imp, Bool.or_eq_false_iff, bq2, bqt, bqf] at hb)) | intro _)
    all_goals first | (exfalso; omega) | skip
    all_goals (refine qF (L' := []) ?_; exact ⟨⟨false, bool_eq (by (try simp [*]); first | done | omega | (intros; omega) | (constructor <;> intros <;> (try simp_all) <;> omega)), by simp, fun h => absurd h hp⟩, rfl, rfl⟩)
end Go.Proofs.E

