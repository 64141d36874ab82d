/- The law RecordWide. Part 1 of 1. -/
import Derived.Test.YtbchgeledcfklaaGreatI17
import Derived.Test.YtbchgeledcfklaaGreatRows
namespace Go.Proofs.E
open Go
set_option linter.unusedVariables false
set_option linter.unusedSimpArgs false
set_option linter.unusedSectionVars false
theorem y_min3 {x : Cx} {E : Env} {ρ : Hp} {L : SH} {ty : TypeId} {p q s : Operand} {ats : Array TypeId} {k k' k2 : IntKind} {m n o : Int} (h1 : ev E p = some (.int k m)) (h2 : ev E q = some (.int k' n)) (h3 : ev E s = some (.int k2 o)) : Yl x (.call { callee := .builtin .min, args := #[p, q, s], argTypes := ats }) ty E ρ L (.int k (min (min m n) o)) := fun a w _ _ _ _ ha _ => by
  simp [execOp, ha.eval h1, ha.eval h2, ha.eval h3, resolve, invoke, builtin, Builtin.min_, Builtin.min2]
  (try split) <;> (try split) <;> (try simp only [Result.ok.injEq, Value.int.injEq, true_and, and_true]) <;> omega
end Go.Proofs.E

namespace Go.Proofs.E
open Go
set_option linter.unusedVariables false
set_option linter.unusedSimpArgs false
set_option linter.unusedSectionVars false
set_option maxRecDepth 4000
set_option maxHeartbeats 1000000
attribute [local irreducible] Yl TL TC TE Spec YSpec R1 Hp.le EnvLe TS TR YS Stays
-- BN
/-! ## what undoes a change -/
theorem up_imp {α : Type} {right right' : α → Bool} {by' : α → Int} {l : List α} (h : ∀ x ∈ l, right x = true → right' x = true) : ∀ k, upB right by' l k = true → upB right' by' l k = true := by
  intro k
  unfold upB
  generalize l.length = m
  induction k with
  | zero => exact fun e => e
  | succ k ih =>
    intro e
    rw [risesB, Bool.and_eq_true] at e
    rw [risesB, Bool.and_eq_true]
    refine ⟨ih e.1, ?_⟩
    have e2 := e.2
    cases hk : l[k]? with
    | none => rw [hk] at e2; cases e2
    | some x =>
      rw [hk] at e2
      dsimp only at e2 ⊢
      rw [Bool.and_eq_true] at e2 ⊢
      exact ⟨h x (List.mem_of_getElem? hk) e2.1, e2.2⟩
theorem up_lt {α : Type} {right : α → Bool} {by' : α → Int} {l : List α} (h : upB right by' l l.length = true) : ∀ k (hk : k < l.length) j (hj : j < k), by' (l[j]'(by omega)) < by' l[k] := by
  intro k
  induction k with
  | zero => intro _ j hj; omega
  | succ k ih =>
    intro hk j hj
    have h2 := (up_all h (k + 1) hk).2
    simp only [Nat.add_sub_cancel] at h2
    have h3 : by' (l[k]'(by omega)) < by' l[k + 1] := by
      rcases h2 with h2 | h2
      · omega
      · exact h2
    by_cases e : j = k
    · subst e; exact h3
    · have := ih (by omega) j (by omega); omega
theorem find_page {right : Im → Bool} {l : List Im} (h : upB right Im.page l l.length = true) (k : Nat) (hk : k < l.length) : l.find? (fun x => decide (x.page = (l[k]'hk).page)) = some l[k] := by
  rw [List.find?_eq_some_iff_getElem]
  refine ⟨by simp, k, hk, rfl, fun j hj => ?_⟩
  have := up_lt h k hk j hj
  simp only [Bool.not_eq_eq_eq_not, Bool.not_true, decide_eq_false_iff_not]
  omega
def unI (x : Im) : Im := ⟨x.page, nilCV, ztC, x.bv, x.b⟩
def uR (r : Rc) : Rc := ⟨5, r.lsn % 1099511627776 + 1, r.txn, r.lsn, r.prev, r.ims.map unI, [], 0, [], []⟩
theorem recOk_up2 {r : Rc} (h : recOk r = true) (k : r.kind = 2) : upB (imOk true) Im.page r.ims r.ims.length = true := by
  unfold recOk askOk at h
  rw [if_pos k, Bool.and_eq_true, Bool.and_eq_true, Bool.and_eq_true, Bool.and_eq_true] at h
  have := h.2.2.1.2
  unfold imsOk at this
  rw [Bool.and_eq_true] at this
  exact this.2
theorem uR_up {r : Rc} (h : recOk r = true) (k : r.kind = 2) : upB (imOk false) Im.page (uR r).ims (uR r).ims.length = true := by
  show upB (imOk false) Im.page (r.ims.map unI) (r.ims.map unI).length = true
  rw [up_map, List.length_map]
  refine up_imp (right := imOk true) (fun x hx e => ?_) _ (recOk_up2 h k)
  unfold imOk at e ⊢
  rw [Bool.and_eq_true, Bool.and_eq_true, Bool.and_eq_true] at e
  obtain ⟨e1, _, e3, _⟩ := e
  have e1' : pageOk (unI x).page = true := e1
  have e3' : contOk (unI x).a = true := e3
  rw [e1', e3']
  rfl
theorem uR_ok {r : Rc} (h : recOk r = true) (k : r.kind = 2) (hl : r.lsn < 1099511627776) : recOk (uR r) = true := by
  have f := recOk_facts h
  obtain ⟨g1, g2, g3⟩ := f.lsn
  have g4 := f.txn
  have g5 := f.il
  have g6 : r.txn ≠ 0 := by
    unfold recOk headOk at h
    rw [Bool.and_eq_true, Bool.and_eq_true, decide_eq_true_eq, decide_eq_true_eq] at h
    have := h.2.1.2.2.2.2.2.1
    omega
  have e := Nat.mod_eq_of_lt hl
  have hu := uR_up h k
  unfold recOk
  rw [Bool.and_eq_true, Bool.and_eq_true, Bool.and_eq_true]
  refine ⟨by simp [uR], ?_, ?_, ?_⟩
  · unfold headOk uR
    dsimp only
    rw [e]
    exact decide_eq_true (by omega)
  · unfold askOk
    rw [if_neg (by simp [uR]), if_neg (by simp [uR]), if_neg (by simp [uR]), if_pos (by simp [uR]), Bool.and_eq_true]
    refine ⟨?_, ?_⟩
    · unfold uR; dsimp only; rw [e]; exact decide_eq_true (by omega)
    · unfold imsOk
      rw [hu, Bool.and_true]
      exact decide_eq_true (by simp [uR]; omega)
  · unfold bareOk uR
    simp
theorem flatMap_len2 {α : Type} (f g : α → List UInt8) : ∀ (l : List α), (∀ x ∈ l, (f x).length = (g x).length) → (l.flatMap f).length = (l.flatMap g).length
  | [], _ => rfl
  | x :: r, h => by
    rw [List.flatMap_cons, List.flatMap_cons, List.length_append, List.length_append, h x (by simp), flatMap_len2 f g r (fun y hy => h y (by simp [hy]))]
theorem uR_len (r : Rc) : (recB (uR r)).length = (recB (undR r.ims)).length := by
  unfold recB recHB recTB imsB listB
  simp only [uR, undR, show ¬ ((5 : Int) = 2) by decide, show ¬ ((5 : Int) = 3) by decide, show ¬ ((5 : Int) = 4) by decide, if_false, if_true, decide_false, List.length_append, List.length_cons, be_length, List.flatMap_map, List.length_map]
  rw [flatMap_len2 (fun a => imB false (unI a)) (fun a => imB false (undI a)) r.ims (fun x _ => by simp [imB, unI, undI])]
theorem sectsB_pos (n : Nat) : 1 ≤ sectsB n := by unfold sectsB; omega
end Go.Proofs.E

namespace Go.Proofs.E
open Go
set_option linter.unusedVariables false
set_option linter.unusedSimpArgs false
set_option linter.unusedSectionVars false
set_option maxRecDepth 4000
set_option maxHeartbeats 1000000
attribute [local irreducible] Yl TL TC TE Spec YSpec R1 Hp.le EnvLe TS TR YS Stays
-- BN
theorem few12O_spec (ρ : Hp) (v : RV) (r : Rc) (h : RcW ρ v r) : Spec Tryz.prog 27 [.agg ⟨recV v r⟩] ρ []
    (fun z ρ' L' => ρ.le ρ' ∧ ∃ va vc sp acc s' t' d' r', z = .agg ⟨recV ⟨⟨va, acc.length, vc⟩, s', t', d'⟩ r'⟩ ∧ OwnS (.slice va acc.length vc) acc.length ((acc.map imV).flatten) sp 7 ∧ acc.length ≤ 17 ∧ r'.ims = acc ∧ (∀ x ∈ acc, Im.In ρ' x) ∧ AS ρ' 6 stpV s' r'.steps ∧ AS ρ' 5 ckTV t' r'.txns ∧ AS ρ' 2 ckPV d' r'.dirty ∧ (∀ s ∈ r'.steps, RowFit s.row) ∧ r'.plain = fewR r ∧ L' = [ownC (.slice va acc.length vc) ((acc.map imV).flatten) sp 68]) := by
  obtain ⟨hi, him, hs, ht, hd, hsf⟩ := h
  have hsl := hs.at'.len
  have hsb := hs.big
  have htl := ht.at'.len
  have htb := ht.big
  have hdl := hd.at'.len
  have hdb := hd.big
  have cs := hs.cap
  have ct := ht.cap
  have cd := hd.cap
  obtain ⟨ms, hms⟩ : ∃ m, m = min v.s.n 3 := ⟨_, rfl⟩
  obtain ⟨mt, hmt⟩ : ∃ m, m = min v.t.n 9 := ⟨_, rfl⟩
  obtain ⟨md, hmd⟩ : ∃ m, m = min v.d.n 65 := ⟨_, rfl⟩
  have hsm : (min (v.s.n : Int) 3).toNat = ms := by omega
  have htm : (min (v.t.n : Int) 9).toNat = mt := by omega
  have hdm : (min (v.d.n : Int) 65).toNat = md := by omega
  have hS := hs.at'.take (hi' := ms) (by omega)
  have hT := ht.at'.take (hi' := mt) (by omega)
  have hD := hd.at'.take (hi' := md) (by omega)
  rw [take_some 3 _ _ _ hsl hms] at hS
  rw [take_some 9 _ _ _ htl hmt] at hT
  rw [take_some 65 _ _ _ hdl hmd] at hD
  have hSf : ∀ s ∈ r.steps.take 3, RowFit s.row := fun s hh => hsf s (List.mem_of_mem_take hh)
  have hil := hi.at'.len
  have hib := hi.big
  refine spec_enter Tryz.func27 rfl rfl rfl fun u R => ?_
  simp only [argsE, List.cons_append, List.nil_append]
  repeat' (first | (refine iBu ?_; refine tl_y (y_buildN rfl) rfl rfl ?_) | (refine i_op ?_; first | (refine i_qq ?_; refine qQ ?_) | refine qEf ?_) | refine tl_nil ?_ | (refine i_tc ?_; refine qTc ?_) | (refine i_te ?_; refine qTe ?_) | intro _)
  rename_i b1 b2
  refine tc_loop_g [(1, _), (2, _), (8, _), (9, _)] (fun (ζ : (Nat) × (Hp) × (Value) × (List Value) × (List Im)) => [(10, .int .i64 ζ.1), (3, ζ.2.2.1)]) (fun (ζ : (Nat) × (Hp) × (Value) × (List Value) × (List Im)) => ζ.2.1) (fun (ζ : (Nat) × (Hp) × (Value) × (List Value) × (List Im)) => [ownC ζ.2.2.1 ((ζ.2.2.2.2.map imV).flatten) ζ.2.2.2.1 68]) (fun (ζ : (Nat) × (Hp) × (Value) × (List Value) × (List Im)) => ζ.1 ≤ v.i.n ∧ ρ.le ζ.2.1 ∧ OwnS ζ.2.2.1 ζ.2.2.2.2.length ((ζ.2.2.2.2.map imV).flatten) ζ.2.2.2.1 7 ∧ ζ.2.2.2.2.map Im.plain = (r.ims.take (min ζ.1 17)).map fewIm ∧ (∀ x ∈ ζ.2.2.2.2, Im.In ζ.2.1 x)) (fun (ζ : (Nat) × (Hp) × (Value) × (List Value) × (List Im)) => v.i.n - ζ.1) ((0, ρ, .slice none 0 0, [], [])) (⟨Nat.zero_le _, Hp.le_refl _, OwnS.nil 7, by simp, by simp⟩) ev_le ev_le rfl tk ?_
  rintro ⟨k, ρ1, vv, sp, acc⟩ hI
  try simp only [List.cons_append, List.nil_append, List.append_assoc, List.append_eq] at hI ⊢
  try dsimp only at hI ⊢
  obtain ⟨hk, hle1, hown, hacc, hin⟩ := hI
  have hal : acc.length = min k 17 := by have := congrArg List.length hacc; simp at this; omega
  obtain ⟨va, vc, rfl, _⟩ := hown.slice
  by_cases hlt : k < v.i.n
  · obtain ⟨b, off, C, T, fr, e1, hb, hfit, hc⟩ := (hi.at'.mono hle1).get (show k < r.ims.length by omega)
    have hts := List.take_succ_eq_append_getElem (show k < r.ims.length by omega)
    obtain ⟨hxb, hxa⟩ := him _ (List.getElem_mem (show k < r.ims.length by omega))
    generalize r.ims[k]'(by omega) = x at *
    rw [e1]
    by_cases h16 : k ≤ 16
    · have hcb := content12_spec ρ1 x.bv x.b (hxb.mono hle1).few
      have hca := fun ρ2 (hle : ρ1.le ρ2) => content12_spec ρ2 x.av x.a (hxa.mono (Hp.le_trans hle1 hle)).few
      repeat' (first | (refine iBu ?_; refine tl_y (y_buildN rfl) rfl rfl ?_) | (refine i_op ?_; first | (refine i_qq ?_; refine qQ ?_) | refine qEf ?_) | refine tl_nil ?_ | (refine i_tc ?_; refine qTc ?_) | (refine i_te ?_; refine qTe ?_) | intro _)
      refine tc_any (Stays _ _ ([[(_, .cells ⟨imV x⟩ 68 (0, 0))]])) (stays_of (hT := tk) (Hp.le_refl _)) ?_
      all_goals refine rMv 0 ?_
      all_goals refine rFa 1 ?_
      all_goals refine rLd 2 ?_
      all_goals refine rFa 3 ?_
      all_goals refine rLd 4 ?_
      all_goals refine rFa 6 ?_
      all_goals refine rLd 7 ?_
      all_goals (refine rStep (i := 5) ?_; ((try refine qWant ?_); (first | (refine tl_is (.func 92) ?_; refine qC rfl rfl (hcb) ?_; rintro v ρ' L' hle ⟨hl2, w2, rfl, hC2, rfl⟩ <;> (try simp only [kM, kN, kO])) | (refine tl_is (.func 92) ?_; refine qC rfl rfl (hca _ hl2) ?_; rintro v ρ' L' hle ⟨hl3, w3, rfl, hC3, rfl⟩ <;> (try simp only [kM, kN, kO])) | (refine qEf ?_; try intro _)) <;> ((try simp only [kM, kN, kO]); refine tl_nil ?_; refine rNext ?_)))
      all_goals (refine rStep (i := 8) ?_; ((try refine qWant ?_); (first | (refine tl_is (.func 92) ?_; refine qC rfl rfl (hcb) ?_; rintro v ρ' L' hle ⟨hl2, w2, rfl, hC2, rfl⟩ <;> (try simp only [kM, kN, kO])) | (refine tl_is (.func 92) ?_; refine qC rfl rfl (hca _ hl2) ?_; rintro v ρ' L' hle ⟨hl3, w3, rfl, hC3, rfl⟩ <;> (try simp only [kM, kN, kO])) | (refine qEf ?_; try intro _)) <;> ((try simp only [kM, kN, kO]); refine tl_nil ?_; refine rNext ?_)))
      all_goals refine rBu 9 ?_ (y := fun _ _ => y_buildN rfl)
      all_goals (refine rStep (i := 10) ?_; ((try refine qWant ?_); (first | (refine tl_buildSliceA (css := [[.int .i64 x.page, .int .i64 x.b.kind, .slice w2.ra w2.rn w2.rc, .slice w2.ka w2.kn w2.kc, .int .i64 x.a.kind, .slice w3.ra w3.rn w3.rc, .slice w3.ka w3.kn w3.kc]]) (sz := 7) rfl rfl rfl rfl (by simp) (by simp) rfl (fun bs => ?_); simp only [List.flatten_cons, List.flatten_nil, List.append_nil]) | (refine qEf ?_; try intro _)) <;> ((try simp only [kM, kN, kO]); refine tl_nil ?_; refine rNext ?_)))
      all_goals (refine rStep (i := 11) ?_; ((try refine qWant ?_); (first | (refine tl_buildSliceA (css := [[.int .i64 x.page, .int .i64 x.b.kind, .slice w2.ra w2.rn w2.rc, .slice w2.ka w2.kn w2.kc, .int .i64 x.a.kind, .slice w3.ra w3.rn w3.rc, .slice w3.ka w3.kn w3.kc]]) (sz := 7) rfl rfl rfl rfl (by simp) (by simp) rfl (fun bs => ?_); simp only [List.flatten_cons, List.flatten_nil, List.append_nil]) | (refine tl_app (ys := [.int .i64 x.page, .int .i64 x.b.kind, .slice w2.ra w2.rn w2.rc, .slice w2.ka w2.kn w2.kc, .int .i64 x.a.kind, .slice w3.ra w3.rn w3.rc, .slice w3.ka w3.kn w3.kc]) (m := 1) rfl rfl hown (hR := by infer_instance) (SrcV.lit) rfl rfl (by decide) rfl (by omega) (by omega) rfl (fun v' sp' hown' => ?_)) | (refine qEf ?_; try intro _)) <;> ((try simp only [kM, kN, kO]); refine tl_nil ?_; refine rNext ?_)))
      all_goals refine rFull ?_
      all_goals refine rAs 12 ?_
      all_goals refine rDone ?_
      all_goals (
        have hy : ∃ y : Im, (⟨x.page, w2, fewC x.b, w3, fewC x.a⟩ : Im) = y := ⟨_, rfl⟩
        obtain ⟨y, hy⟩ := hy
        have hyp : y.plain = fewIm x := by rw [← hy]; rfl
        have hyi : Im.In ρ' y := by rw [← hy]; exact ⟨(fewC_fit hxb hC2).mono hl3, fewC_fit hxa hC3⟩
        have hyl : [.int .i64 x.page, .int .i64 x.b.kind, .slice w2.ra w2.rn w2.rc, .slice w2.ka w2.kn w2.kc, .int .i64 x.a.kind, .slice w3.ra w3.rn w3.rc, .slice w3.ka w3.kn w3.kc] = imV y := by rw [← hy]; rfl
        rw [hyl] at hown' ⊢
        have hm : (acc.map imV).flatten ++ imV y = ((acc ++ [y]).map imV).flatten := by simp
        rw [hm] at hown' ⊢
        have hac2 : (acc ++ [y]).map Im.plain = (r.ims.take (min (k + 1) 17)).map fewIm := by
          rw [List.map_append, hacc, show min k 17 = k by omega, show min (k + 1) 17 = k + 1 by omega, hts]
          simp [hyp]
        have hin2 : ∀ z ∈ acc ++ [y], Im.In ρ' z := fun z hz => by
          rcases List.mem_append.1 hz with hz | hz
          · exact (hin z hz).mono (Hp.le_trans hl2 hl3)
          · rw [List.mem_singleton.1 hz]; exact hyi
        have hown2 : OwnS v' (acc ++ [y]).length (((acc ++ [y]).map imV).flatten) sp' 7 := by simpa using hown'
        obtain ⟨va', vc', rfl, _⟩ := hown2.slice
        skip)
      all_goals (repeat' (first | (refine iBu ?_; refine tl_y (y_buildN rfl) rfl rfl ?_) | (refine i_op ?_; first | (refine i_qq ?_; refine qQ ?_) | refine qEf ?_) | refine tl_nil ?_ | (refine i_tc ?_; refine qTc ?_) | (refine i_te ?_; refine qTe ?_) | intro _))
      all_goals rw [← e1]
      all_goals refine te_round_g (k + 1, _, _, sp', acc ++ [y]) (⟨hlt, Hp.le_trans hle1 (Hp.le_trans hl2 hl3), hown2, hac2, hin2⟩) ev_le ev_le rfl tk inferInstance (by first | omega | (dsimp only; omega))
    · have hacc' : acc.map Im.plain = (r.ims.take (min (k + 1) 17)).map fewIm := by rw [hacc, show min k 17 = 17 by omega, show min (k + 1) 17 = 17 by omega]
      repeat' (first | (refine iBu ?_; refine tl_y (y_buildN rfl) rfl rfl ?_) | (refine i_op ?_; first | (refine i_qq ?_; refine qQ ?_) | refine qEf ?_) | refine tl_nil ?_ | (refine i_tc ?_; refine qTc ?_) | (refine i_te ?_; refine qTe ?_) | intro _)
      rw [← e1]
      refine te_round_g (k + 1, ρ1, _, sp, acc) (⟨hlt, hle1, hown, hacc', hin⟩) ev_le ev_le rfl tk inferInstance (by first | omega | (dsimp only; omega))
  · have hk2 : k = v.i.n := by omega
    have hacc2 : acc.map Im.plain = (r.ims.take 17).map fewIm := by rw [hacc, take_some 17 r.ims v.i.n (min k 17) hil (by omega)]
    have hρ := hle1
    have hSl := hS.len
    have hTl := hT.len
    have hDl := hD.len
    unfold fewR
    generalize hSS : r.steps.take 3 = SS at *
    generalize hTT : r.txns.take 9 = TT at *
    generalize hDD : r.dirty.take 65 = DD at *
    have hle2 := Hp.le_refl ρ1
    have hownI := hown
    repeat' (first | (simp only [hsm]; refine tl_app (n := 0) (xs := []) (sp := []) (ys := (SS.map stpV).flatten) (m := ms) (sz := 6) rfl rfl (OwnS.zero _ 6) (hR := rem_here') (AIn.srcV (hS.mono hρ)) (by rw [flat_len stpV 6 _ (fun x _ => rfl), hSl]) (flat_one stpV stpV_one _) (by decide) rfl (by omega) (by omega) rfl (fun v1 sp1 hown1 => ?_); simp only [Nat.zero_add, List.nil_append] at hown1 ⊢; obtain ⟨a1, c1, rfl, hlen1⟩ := hown1.len) | (refine iBu ?_; refine tl_y (y_buildN rfl) rfl rfl ?_) | (refine i_op ?_; first | (refine i_qq ?_; refine qQ ?_) | refine qEf ?_) | refine tl_nil ?_ | (refine i_tc ?_; refine qTc ?_) | (refine i_te ?_; refine qTe ?_) | intro _)
    refine tc_loop_g [(1, _), (2, _), (44, _)] (fun (ζ : (Nat) × (List Stp)) => [(45, .int .i64 ζ.1)]) (fun (ζ : (Nat) × (List Stp)) => ρ1) (fun (ζ : (Nat) × (List Stp)) => [ownC (.slice a1 ms c1) (ζ.2.map stpV).flatten sp1 62, [(b1, .cells ⟨[.int .i64 r.kind, .int .u64 r.lsn, .int .i64 r.txn, .int .u64 r.prev, .int .u64 r.next, .slice va acc.length vc, .slice a1 ms c1, .int .i64 r.nextTxn, .slice v.t.a v.t.n v.t.c, .slice v.d.a v.d.n v.d.c]⟩ 30 (0, 0))]]) (fun (ζ : (Nat) × (List Stp)) => ζ.1 ≤ ms ∧ ζ.2 = (SS.take ζ.1).map shortS ++ SS.drop ζ.1) (fun (ζ : (Nat) × (List Stp)) => ms - ζ.1) ((0, SS)) (⟨Nat.zero_le _, by simp⟩) ev_le ev_le rfl tk ?_
    rintro ⟨j, accS⟩ hI
    try simp only [List.cons_append, List.nil_append, List.append_assoc, List.append_eq] at hI ⊢
    try dsimp only at hI ⊢
    obtain ⟨hj0, haccS⟩ := hI
    have halS : accS.length = ms := by rw [haccS]; simp; omega
    by_cases hlj : j < ms
    · obtain ⟨pb, pc, e1⟩ := hown1.pos (by omega)
      cases e1
      have hkR : j < SS.length := by omega
      have hkv := get_stepG shortS SS j hkR
      have hset := set_stepG shortS SS j hkR
      rw [← haccS] at hkv
      rw [← haccS] at hset
      generalize SS[j]'hkR = x at *
      have hld := stp_get (sp := sp1) accS j x hkv
      haveI hst := stp_setL (sp := sp1) (x.row.note.take (min (x.row.note.length : Int) 9).toNat) hkv
      have e9 := take_min9 x.row.note
      repeat' (first | (refine iBu ?_; refine tl_y (y_buildN rfl) rfl rfl ?_) | (refine i_op ?_; first | (refine i_qq ?_; refine qQ ?_) | refine qEf ?_) | refine tl_nil ?_ | (refine i_tc ?_; refine qTc ?_) | (refine i_te ?_; refine qTe ?_) | intro _)
      rw [show ownC (.slice (some ⟨pb, 0, none⟩) ms c1) ((accS.map stpV).flatten) sp1 62 = [(pb, .cells ⟨(accS.map stpV).flatten ++ sp1⟩ 62 (0, 0))] from rfl]
      refine tc_phase 23 (Stays _ _ ([[(pb, .cells ⟨(accS.map stpV).flatten ++ sp1⟩ 62 (0, 0))], [(b1, .cells ⟨[.int .i64 r.kind, .int .u64 r.lsn, .int .i64 r.txn, .int .u64 r.prev, .int .u64 r.next, .slice va acc.length vc, .slice (some ⟨pb, 0, none⟩) ms c1, .int .i64 r.nextTxn, .slice v.t.a v.t.n v.t.c, .slice v.d.a v.d.n v.d.c]⟩ 30 (0, 0))]])) (by decide +kernel) (stays_of (hT := tk) (Hp.le_refl _)) ?_
      simp only [List.take_succ_cons, List.take_zero]
      all_goals refine rFa 0 ?_
      all_goals refine rLd 1 ?_
      all_goals refine rMv 2 ?_
      all_goals refine rFa 3 ?_
      all_goals refine rLd 4 ?_
      all_goals refine rMv 5 ?_
      all_goals refine rIa 6 ?_
      all_goals refine rFa 7 ?_
      all_goals refine rFa 8 ?_
      all_goals refine rLd 9 ?_
      all_goals refine rFa 10 ?_
      all_goals refine rLd 11 ?_
      all_goals refine rMv 12 ?_
      all_goals refine rIa 13 ?_
      all_goals refine rFa 14 ?_
      all_goals refine rFa 15 ?_
      all_goals refine rLd 16 ?_
      all_goals refine rBi 17 ?_
      all_goals refine rBi 18 ?_
      all_goals refine rSl 19 ?_
      all_goals refine rIa 20 ?_
      all_goals refine rFa 21 ?_
      all_goals refine rFa 22 ?_
      all_goals refine rDone ?_
      all_goals refine te_phase (fuel := 1) (m := [true, true, true, true, true, true, true, true, true, true, true, true, true, true, true, true, true, true, true, true, true, true, true, false]) (Stays _ _ ([])) rfl rfl (stays_of (hT := tk) (Hp.le_refl _)) ?_
      all_goals (refine rStep (i := 23) ?_; ((try refine qWant ?_); (first | (refine qEf ?_; try intro _)) <;> ((try simp only [kM, kN, kO]); refine tl_nil ?_; refine rNext ?_)))
      all_goals refine rDone ?_
      all_goals rw [e9]
      all_goals (repeat' (first | (refine iBu ?_; refine tl_y (y_buildN rfl) rfl rfl ?_) | (refine i_op ?_; first | (refine i_qq ?_; refine qQ ?_) | refine qEf ?_) | refine tl_nil ?_ | (refine i_tc ?_; refine qTc ?_) | (refine i_te ?_; refine qTe ?_) | intro _))
      have hsr : noteS x (x.row.note.take 9) = shortS x := rfl
      rw [hsr]
      rw [← show ownC (.slice (some ⟨pb, 0, none⟩) ms c1) (((accS.set j (shortS x)).map stpV).flatten) sp1 62 = [(pb, .cells ⟨((accS.set j (shortS x)).map stpV).flatten ++ sp1⟩ 62 (0, 0))] from rfl]
      refine te_round_g (j + 1, accS.set j (shortS x)) (⟨hlj, hset⟩) ev_le ev_le rfl tk inferInstance (by first | omega | (dsimp only; omega))
    · have hfin : accS = SS.map shortS := by rw [haccS, List.take_of_length_le (by omega), List.drop_eq_nil_of_le (by omega), List.append_nil]
      have hown1' : OwnS (.slice a1 ms c1) ms ((accS.map stpV).flatten) sp1 6 := by
        have hL : ((accS.map stpV).flatten).length = ((SS.map stpV).flatten).length := by rw [flat_len stpV 6 _ (fun x _ => rfl), flat_len stpV 6 _ (fun x _ => rfl), halS, hSl]
        rcases hown1.out with ⟨h1, h2, h3, h4⟩ | ⟨b, cap, h1, h2, h3, h4⟩
        · exact ⟨.inl ⟨h1, h2, List.eq_nil_of_length_eq_zero (by rw [hL, h3]; rfl), h4⟩⟩
        · exact ⟨.inr ⟨b, cap, h1, by rw [hL]; exact h2, by rw [hL]; exact h3, h4⟩⟩
      refine tc_freeze (ownC (.slice a1 ms c1) ((accS.map stpV).flatten) sp1 62) (fun ρ3 hle3 hfz => ?_)
      obtain ⟨sa3, sc3, e3, hsc3, hAS⟩ := hown1'.aIn halS (fun x _ => stpV_len x) hfz
      cases e3
      have hρ := Hp.le_trans hρ hle3
      clear hfz
      repeat' (first | (simp only [htm]; refine tl_app (n := 0) (xs := []) (sp := []) (ys := (TT.map ckTV).flatten) (m := mt) (sz := 5) rfl rfl (OwnS.zero _ 5) (hR := rem_here') (AIn.srcV (hT.mono hρ)) (by rw [flat_len ckTV 5 _ (fun x _ => rfl), hTl]) (flat_one ckTV ckTV_one _) (by decide) rfl (by omega) (by omega) rfl (fun v4 sp4 hown4 => ?_); simp only [Nat.zero_add, List.nil_append] at hown4 ⊢; refine tl_freeze _ (h := Rem.here) (fun ρ4 hle4 hfz => ?_); obtain ⟨a4, c4, rfl, hsc4, hAT⟩ := hown4.aIn hTl (fun x _ => ckTV_len x) hfz; clear hfz) | (simp only [hdm]; refine tl_app (n := 0) (xs := []) (sp := []) (ys := (DD.map ckPV).flatten) (m := md) (sz := 2) rfl rfl (OwnS.zero _ 2) (hR := rem_here') (AIn.srcV ((hD.mono hρ).mono hle4)) (by rw [flat_len ckPV 2 _ (fun x _ => rfl), hDl]) (flat_one ckPV ckPV_one _) (by decide) rfl (by omega) (by omega) rfl (fun v5 sp5 hown5 => ?_); simp only [Nat.zero_add, List.nil_append] at hown5 ⊢; refine tl_freeze _ (h := Rem.here) (fun ρ5 hle5 hfz => ?_); obtain ⟨a5, c5, rfl, hsc5, hAD⟩ := hown5.aIn hDl (fun x _ => ckPV_len x) hfz; clear hfz) | (refine iBu ?_; refine tl_y (y_buildN rfl) rfl rfl ?_) | (refine i_op ?_; first | (refine i_qq ?_; refine qQ ?_) | refine qEf ?_) | refine tl_nil ?_ | (refine i_tc ?_; refine qTc ?_) | (refine i_te ?_; refine qTe ?_) | intro _)
      have h25 := Hp.le_trans hle3 (Hp.le_trans hle4 hle5)
      exact qE (L' := [ownC (.slice va acc.length vc) ((acc.map imV).flatten) sp 68]) ⟨Hp.le_trans hρ (Hp.le_trans hle4 hle5), va, vc, sp, acc, ⟨a1, ms, c1⟩, ⟨a4, mt, c4⟩, ⟨a5, md, c5⟩, { r with ims := acc, steps := accS, txns := TT, dirty := DD }, rfl, hownI, by omega, rfl, fun x hx => (hin x hx).mono h25, ⟨hAS.mono (Hp.le_trans hle4 hle5), by dsimp only; omega, hsc3⟩, ⟨hAT.mono hle5, by dsimp only; omega, hsc4⟩, ⟨hAD, by dsimp only; omega, hsc5⟩, by rw [hfin]; intro s hs2; obtain ⟨y, hy, rfl⟩ := List.mem_map.1 hs2; exact ⟨(hSf y hy).id, (hSf y hy).val⟩, by rw [hfin, ← hacc2], rfl⟩
end Go.Proofs.E

namespace Go.Proofs.E
open Go
set_option linter.unusedVariables false
set_option linter.unusedSimpArgs false
set_option linter.unusedSectionVars false
set_option maxRecDepth 4000
set_option maxHeartbeats 1000000
attribute [local irreducible] Yl TL TC TE Spec YSpec R1 Hp.le EnvLe TS TR YS Stays
-- BN
-- MIN3
def zB (x : Im) : Im := ⟨x.page, nilCV, ztC, x.av, x.a⟩
abbrev zc3 : List Value := [.int .i64 0, .slice none 0 0, .slice none 0 0]
theorem im_setS {sp : List Value} : ∀ (acc : List Im) (k : Nat) (x : Im), acc[k]? = some x → SetS ((acc.map imV).flatten ++ sp) (0 + k * 7 + 1) zc3 (((acc.set k (zB x)).map imV).flatten ++ sp)
  | [], k, x, h => by cases h
  | a :: t, 0, x, h => by
    cases h
    exact SetS.drop (n := 0) (h := SetS.cons (h := SetS.cons (h := SetS.cons (h := SetS.nil))))
  | a :: t, k + 1, x, h => by
    have ih := im_setS (sp := sp) t k x (by simpa using h)
    rw [show 0 + (k + 1) * 7 + 1 = (0 + k * 7 + 1) + 1 + 1 + 1 + 1 + 1 + 1 + 1 by omega]
    exact SetS.drop (h := SetS.drop (h := SetS.drop (h := SetS.drop (h := SetS.drop (h := SetS.drop (h := SetS.drop (h := ih)))))))
def wR (r : Rc) (l : List Im) : Rc := ⟨5, r.lsn + 1, r.txn, r.lsn, r.next, l, [], 0, [], []⟩
theorem wR_len (r : Rc) (l : List Im) (h : ∀ x ∈ l, contOk x.a = true) : (recB (wR r l)).length ≤ 30 + l.length * 83 := by
  unfold recB recHB recTB imsB listB
  simp only [wR, show ¬ ((5 : Int) = 2) by decide, show ¬ ((5 : Int) = 3) by decide, show ¬ ((5 : Int) = 4) by decide, if_false, if_true, decide_false, List.length_append, List.length_cons, be_length]
  have := flatMap_le (imB false) 83 l (fun x hx => by
    have := contB_len (h x hx)
    simp [imB]; omega)
  omega
theorem sectsB_mono {a b : Nat} (h : a ≤ b) : sectsB a ≤ sectsB b := by unfold sectsB; omega
theorem wide12_spec (ρ : Hp) (v : RV) (r0 : Rc) (h0 : RcW ρ v r0) (la : Option Addr) (ln lc : Nat) (l : List Im) (hl : AIn ρ 7 imV la ln l) (hlw : ∀ x ∈ l, CW ρ x.bv x.b ∧ CW ρ x.av x.a) (hc : ln ≤ lc) (hn : ln ≤ 9223372036854775807) :
    Spec Tryz.prog 6 [.agg ⟨recV v r0⟩, .slice la ln lc] ρ [] (fun z ρ' L' => z = .bool true ∧ ρ.le ρ' ∧ L' = []) := by
  have hll := hl.len
  refine spec_enter Tryz.func6 rfl rfl rfl fun u R => ?_
  simp only [argsE, List.cons_append, List.nil_append]
  repeat' (first | (refine tl_is (.func 23) ?_; refine qC rfl rfl (wakes12_spec _) ?_; rintro v ρ' L' hle ⟨rfl, hl1, rfl⟩ <;> (try simp only [kM, kN, kO])) | (refine iBu ?_; refine tl_y (y_buildN rfl) rfl rfl ?_) | (refine i_op ?_; first | (refine i_qq ?_; refine qQ ?_) | refine qEf ?_) | refine tl_nil ?_ | (refine i_tc ?_; refine qTc ?_) | (refine i_te ?_; refine qTe ?_) | intro _)
  have hfew := few12_spec _ v r0 (h0.mono hl1)
  repeat' (first | (refine tl_is (.func 27) ?_; refine qC rfl rfl (hfew) ?_; rintro v ρ' L' hle ⟨hl2, v1, r, rfl, hr, hp, rfl⟩ <;> (try simp only [kM, kN, kO])) | (refine iBu ?_; refine tl_y (y_buildN rfl) rfl rfl ?_) | (refine i_op ?_; first | (refine i_qq ?_; refine qQ ?_) | refine qEf ?_) | refine tl_nil ?_ | (refine i_tc ?_; refine qTc ?_) | (refine i_te ?_; refine qTe ?_) | intro _)
  have hck := rcheck_spec _ v1 r hr
  have hρ0 := Hp.le_trans hl1 hl2
  cases hok : recOk r
  · rw [hok] at hck
    repeat' (first | (refine tl_is (.func 34) ?_; refine qC rfl rfl (hck) ?_; rintro v ρ' L' hle ⟨rfl, rfl, rfl⟩ <;> (try simp only [kM, kN, kO, if_false, Bool.false_eq_true])) | (refine iBu ?_; refine tl_y (y_buildN rfl) rfl rfl ?_) | (refine i_op ?_; first | (refine i_qq ?_; refine qQ ?_) | refine qEf ?_) | refine tl_nil ?_ | (refine i_tc ?_; refine qTc ?_) | (refine i_te ?_; refine qTe ?_) | intro _)
    exact qE (L' := []) (hle := hρ0) ⟨rfl, hρ0, rfl⟩
  · rw [hok] at hck
    have hF := recOk_facts hok
    have hls := hF.lsn
    have hnx := hF.next
    have htx := hF.txn
    by_cases k4 : r.kind = 4 ∧ r.lsn ≠ 1099511627776
    · obtain ⟨k4, hmax⟩ := k4
      have hA := hr.s.at'
      have hsl := hA.len
      have hsl2 := hF.sl
      repeat' (first | (refine tl_is (.func 34) ?_; refine qC rfl rfl (hck) ?_; rintro v ρ' L' hle ⟨rfl, rfl, rfl⟩ <;> (try simp only [kM, kN, kO, if_true])) | (refine iBu ?_; refine tl_y (y_buildN rfl) rfl rfl ?_) | (refine i_op ?_; first | (refine i_qq ?_; refine qQ ?_) | refine qEf ?_) | refine tl_nil ?_ | (refine i_tc ?_; refine qTc ?_) | (refine i_te ?_; refine qTe ?_) | intro _)
      refine tc_loop_g [(1, _), (4, _), (5, _), (33, _), (34, _)] (fun (ζ : (Nat) × (Nat)) => [(35, .int .i64 ζ.1), (6, .int .i64 ζ.2)]) (fun (ζ : (Nat) × (Nat)) => ρ') (fun (ζ : (Nat) × (Nat)) => [[(_, .cells ⟨recV v1 r⟩ 30 (0, 0))]]) (fun (ζ : (Nat) × (Nat)) => ζ.1 ≤ v1.s.n ∧ ζ.2 = pagesN (r.steps.take ζ.1)) (fun (ζ : (Nat) × (Nat)) => v1.s.n - ζ.1) ((0, 0)) (⟨Nat.zero_le _, rfl⟩) ev_le ev_le rfl tk ?_
      rintro ⟨k, n⟩ hI
      try simp only [List.cons_append, List.nil_append, List.append_assoc, List.append_eq] at hI ⊢
      try dsimp only at hI ⊢
      obtain ⟨hk, hnn⟩ := hI
      have hple := pagesN_le (r.steps.take k)
      have htl : (r.steps.take k).length ≤ 2 := by simp; omega
      by_cases hlt : k < v1.s.n
      · obtain ⟨b, off, C, T, fr, e1, hb, hfit, hcc⟩ := hA.get (show k < r.steps.length by omega)
        have hx := pagesN_succ r.steps k (by omega)
        generalize r.steps[k]'(by omega) = x at *
        rw [e1]
        unfold stepN at hx
        by_cases h34 : x.kind = 3 ∨ x.kind = 4
        · rw [if_pos h34] at hx
          rcases h34 with e | e
          all_goals (repeat' (first | (refine iBu ?_; refine tl_y (y_buildN rfl) rfl rfl ?_) | (refine i_op ?_; first | (refine i_qq ?_; refine qQ ?_) | refine qEf ?_) | refine tl_nil ?_ | (refine i_tc ?_; refine qTc ?_) | (refine i_te ?_; refine qTe ?_) | intro _))
          all_goals rw [← e1]
          all_goals refine te_round_g (k + 1, n + 12) (⟨hlt, by dsimp only; omega⟩) ev_le ev_le rfl tk inferInstance (by first | omega | (dsimp only; omega))
        · rw [if_neg h34] at hx
          repeat' (first | (refine iBu ?_; refine tl_y (y_buildN rfl) rfl rfl ?_) | (refine i_op ?_; first | (refine i_qq ?_; refine qQ ?_) | refine qEf ?_) | refine tl_nil ?_ | (refine i_tc ?_; refine qTc ?_) | (refine i_te ?_; refine qTe ?_) | intro _)
          rw [← e1]
          refine te_round_g (k + 1, n + 1) (⟨hlt, by dsimp only; omega⟩) ev_le ev_le rfl tk inferInstance (by first | omega | (dsimp only; omega))
      · rw [show r.steps.take k = r.steps by rw [show k = r.steps.length by omega, List.take_length]] at hnn hple htl
        obtain ⟨m, hm⟩ : ∃ m, m = min ln (min n 16) := ⟨_, rfl⟩
        have hm16 : m ≤ 16 := by omega
        have hmt : (min (min (ln : Int) (n : Int)) 16).toNat = m := by omega
        have hlm := (hl.mono hρ0).take (hi' := m) (by omega)
        have hml := hlm.len
        have hW : RcW ρ' ⟨⟨la, m, lc⟩, ⟨none, 0, 0⟩, ⟨none, 0, 0⟩, ⟨none, 0, 0⟩⟩ (wR r (l.take m)) := ⟨⟨hlm, by dsimp only; omega, by dsimp only; omega⟩, fun x hx => ⟨(hlw x (List.mem_of_mem_take hx)).1.mono hρ0, (hlw x (List.mem_of_mem_take hx)).2.mono hρ0⟩, ⟨AIn.nil, by dsimp only; omega, by dsimp only; omega⟩, ⟨AIn.nil, by dsimp only; omega, by dsimp only; omega⟩, ⟨AIn.nil, by dsimp only; omega, by dsimp only; omega⟩, by simp [wR]⟩
        have hfo := few12O_spec ρ' _ _ hW
        have hlit : [.int .i64 5, .int .u64 ((r.lsn : Int) + 1), .int .i64 r.txn, .int .u64 r.lsn, .int .u64 r.next, .slice la m lc, .slice none 0 0, .int .i64 0, .slice none 0 0, .slice none 0 0] = recV ⟨⟨la, m, lc⟩, ⟨none, 0, 0⟩, ⟨none, 0, 0⟩, ⟨none, 0, 0⟩⟩ (wR r (l.take m)) := by
          rw [show (r.lsn : Int) + 1 = ((r.lsn + 1 : Nat) : Int) by omega]; rfl
        repeat' (first | (refine iBu ?_; refine tl_y (y_buildN rfl) rfl rfl ?_) | (refine i_op ?_; first | (refine i_qq ?_; refine qQ ?_) | refine qEf ?_) | refine tl_nil ?_ | (refine i_tc ?_; refine qTc ?_) | (refine i_te ?_; refine qTe ?_) | intro _)
        refine tc_any (Stays _ _ ([[(_, .cells ⟨recV v1 r⟩ 30 (0, 0))]])) (stays_of (hT := tk) (Hp.le_refl _)) ?_
        all_goals refine rFa 0 ?_
        all_goals refine rLd 1 ?_
        all_goals refine rAd 2 ?_
        all_goals refine rFa 3 ?_
        all_goals refine rLd 4 ?_
        all_goals refine rFa 5 ?_
        all_goals refine rLd 6 ?_
        all_goals refine rFa 7 ?_
        all_goals refine rLd 8 ?_
        all_goals refine rMv 9 ?_
        all_goals refine rMv 10 ?_
        all_goals refine rBi 11 ?_
        all_goals refine rMv 12 ?_
        all_goals (first | refine rBi 13 ?_ | refine rBi 13 ?_ (y := fun _ _ => y_min3 rfl rfl rfl))
        all_goals refine rSl 14 ?_
        all_goals refine rBu 15 ?_ (y := fun _ _ => y_buildN rfl)
        all_goals (refine rStep2 (i := 16) (j := 17) ?_ ?_ <;> ((try refine qWant ?_); (first | (simp only [hmt]; rw [hlit]; refine tl_is (.func 27) ?_; refine qC rfl rfl hfo ?_; rintro z1 ρ1 L1 hle0 ⟨hl3, va, vc, sp, acc, s', t', d', r2, rfl, hown, hac, hri, hin, hs2, ht2, hd2, hsf2, hp2, rfl⟩; simp only [List.cons_append, List.nil_append]) | (refine qEf ?_; try intro _)) <;> ((try simp only [kM, kN, kO]); refine tl_nil ?_; refine rNext ?_)))
        all_goals (first | (refine rStep (i := 17) ?_; ((try refine qWant ?_); (first | (refine qEf ?_; try intro _)) <;> ((try simp only [kM, kN, kO]); refine tl_nil ?_; refine rNext ?_))) | (refine rStep (i := 16) ?_; ((try refine qWant ?_); (first | (simp only [hmt]; rw [hlit]; refine tl_is (.func 27) ?_; refine qC rfl rfl hfo ?_; rintro z1 ρ1 L1 hle0 ⟨hl3, va, vc, sp, acc, s', t', d', r2, rfl, hown, hac, hri, hin, hs2, ht2, hd2, hsf2, hp2, rfl⟩; simp only [List.cons_append, List.nil_append]) | (refine qEf ?_; try intro _)) <;> ((try simp only [kM, kN, kO]); refine tl_nil ?_; refine rNext ?_))))
        all_goals (refine rStep (i := 18) ?_; ((try refine qWant ?_); (first | (refine qEf ?_; try intro _)) <;> ((try simp only [kM, kN, kO]); refine tl_nil ?_; refine rNext ?_)))
        all_goals refine rDone ?_
        all_goals (
          have hal := hac
          have hacl : acc.length = m := by
            have := congrArg (fun q : Rc => q.ims.length) hp2
            simp only [fewR, wR, Rc.plain, List.length_map, hri, List.length_take] at this
            omega
          repeat' (first | (refine iBu ?_; refine tl_y (y_buildN rfl) rfl rfl ?_) | (refine i_op ?_; first | (refine i_qq ?_; refine qQ ?_) | refine qEf ?_) | refine tl_nil ?_ | (refine i_tc ?_; refine qTc ?_) | (refine i_te ?_; refine qTe ?_) | intro _)
          refine tc_loop_g [(5, _), (9, _), (71, _)] (fun (ζ : (Nat) × (List Im)) => [(72, .int .i64 ζ.1), (4, .bool false)]) (fun (ζ : (Nat) × (List Im)) => ρ1) (fun (ζ : (Nat) × (List Im)) => [ownC (.slice va acc.length vc) (ζ.2.map imV).flatten sp 68, [(_, .cells ⟨[.int .i64 r2.kind, .int .u64 r2.lsn, .int .i64 r2.txn, .int .u64 r2.prev, .int .u64 r2.next, .slice va acc.length vc, .slice s'.a s'.n s'.c, .int .i64 r2.nextTxn, .slice t'.a t'.n t'.c, .slice d'.a d'.n d'.c]⟩ 30 (0, 0))]]) (fun (ζ : (Nat) × (List Im)) => ζ.1 ≤ acc.length ∧ ζ.2 = (acc.take ζ.1).map zB ++ acc.drop ζ.1) (fun (ζ : (Nat) × (List Im)) => acc.length - ζ.1) ((0, acc)) (⟨Nat.zero_le _, by simp⟩) ev_le ev_le rfl tk ?_
          rintro ⟨j, accJ⟩ hI
          try simp only [List.cons_append, List.nil_append, List.append_assoc, List.append_eq] at hI ⊢
          try dsimp only at hI ⊢
          obtain ⟨hj0, haccJ⟩ := hI
          have halJ : accJ.length = acc.length := by rw [haccJ]; simp; omega
          by_cases hlj : j < acc.length
          · obtain ⟨pb, pc, e1⟩ := hown.pos (by omega)
            cases e1
            have hkv := get_stepG zB acc j hlj
            have hset := set_stepG zB acc j hlj
            rw [← haccJ] at hkv
            rw [← haccJ] at hset
            generalize acc[j]'hlj = x at *
            haveI hst := im_setS (sp := sp) accJ j x hkv
            rw [show ownC (.slice (some ⟨pb, 0, none⟩) acc.length vc) ((accJ.map imV).flatten) sp 68 = [(pb, .cells ⟨(accJ.map imV).flatten ++ sp⟩ 68 (0, 0))] from rfl]
            repeat' (first | (refine iBu ?_; refine tl_y (y_buildN rfl) rfl rfl ?_) | (refine i_op ?_; first | (refine i_qq ?_; refine qQ ?_) | refine qEf ?_) | refine tl_nil ?_ | (refine i_tc ?_; refine qTc ?_) | (refine i_te ?_; refine qTe ?_) | intro _)
            rw [← show ownC (.slice (some ⟨pb, 0, none⟩) acc.length vc) (((accJ.set j (zB x)).map imV).flatten) sp 68 = [(pb, .cells ⟨((accJ.set j (zB x)).map imV).flatten ++ sp⟩ 68 (0, 0))] from rfl]
            refine te_round_g (j + 1, accJ.set j (zB x)) (⟨hlj, hset⟩) ev_le ev_le rfl tk inferInstance (by first | omega | (dsimp only; omega))
          · have hfin : accJ = acc.map zB := by rw [haccJ, List.take_of_length_le (by omega), List.drop_eq_nil_of_le (by omega), List.append_nil]
            have hown' : OwnS (.slice va acc.length vc) acc.length ((accJ.map imV).flatten) sp 7 := by
              have hL : ((accJ.map imV).flatten).length = ((acc.map imV).flatten).length := by rw [flat_len imV 7 _ (fun x _ => rfl), flat_len imV 7 _ (fun x _ => rfl), halJ]
              rcases hown.out with ⟨h1, h2, h3, h4⟩ | ⟨b, cap, h1, h2, h3, h4⟩
              · exact ⟨.inl ⟨h1, h2, List.eq_nil_of_length_eq_zero (by rw [hL, h3]; rfl), h4⟩⟩
              · exact ⟨.inr ⟨b, cap, h1, by rw [hL]; exact h2, by rw [hL]; exact h3, h4⟩⟩
            refine tc_freeze (ownC (.slice va acc.length vc) ((accJ.map imV).flatten) sp 68) (fun ρ4 hle4 hfz => ?_)
            obtain ⟨sa4, sc4, e4, hsc4, hAI⟩ := hown'.aIn halJ (fun x _ => imV_len x) hfz
            cases e4
            clear hfz
            obtain ⟨uu, huu⟩ : ∃ uu : Rc, { r2 with ims := accJ } = uu := ⟨_, rfl⟩
            have hU : RcIn ρ4 ⟨⟨va, acc.length, vc⟩, s', t', d'⟩ uu := by
              rw [← huu]
              exact ⟨⟨hAI, by dsimp only; omega, hsc4⟩, fun x hx => by
                dsimp only at hx
                rw [hfin] at hx
                obtain ⟨y, hy, rfl⟩ := List.mem_map.1 hx
                exact ⟨CI.nil, ((hin y hy).a).mono hle4⟩, hs2.mono hle4, ht2.mono hle4, hd2.mono hle4, hsf2⟩
            have hlitU : [.int .i64 r2.kind, .int .u64 r2.lsn, .int .i64 r2.txn, .int .u64 r2.prev, .int .u64 r2.next, .slice va acc.length vc, .slice s'.a s'.n s'.c, .int .i64 r2.nextTxn, .slice t'.a t'.n t'.c, .slice d'.a d'.n d'.c] = recV ⟨⟨va, acc.length, vc⟩, s', t', d'⟩ uu := by rw [← huu]
            have hUp : uu.plain = wR r (accJ.map Im.plain) := by
              have c1 := congrArg Rc.kind hp2
              have c2 := congrArg Rc.lsn hp2
              have c3 := congrArg Rc.txn hp2
              have c4 := congrArg Rc.prev hp2
              have c5 := congrArg Rc.next hp2
              have c6 := congrArg Rc.steps hp2
              have c7 := congrArg Rc.nextTxn hp2
              have c8 := congrArg Rc.txns hp2
              have c9 := congrArg Rc.dirty hp2
              simp only [fewR, wR, Rc.plain, List.take_nil, List.map_nil] at c1 c2 c3 c4 c5 c6 c7 c8 c9
              rw [← huu]
              unfold wR
              dsimp only [Rc.plain]
              rw [c1, c2, c3, c4, c5, c6, c7, c8, c9]
            have hckU := rcheck_spec ρ4 _ uu hU
            have hρ4 := Hp.le_trans hl3 hle4
            rw [hlitU]
            cases hoU : recOk uu
            · rw [hoU] at hckU
              repeat' (first | (refine tl_is (.func 34) ?_; refine qC rfl rfl (hckU) ?_; rintro v ρ' L' hle ⟨rfl, rfl, rfl⟩ <;> (try simp only [kM, kN, kO, if_false, Bool.false_eq_true])) | (refine iBu ?_; refine tl_y (y_buildN rfl) rfl rfl ?_) | (refine i_op ?_; first | (refine i_qq ?_; refine qQ ?_) | refine qEf ?_) | refine tl_nil ?_ | (refine i_tc ?_; refine qTc ?_) | (refine i_te ?_; refine qTe ?_) | intro _)
              exact qE (L' := []) (hle := Hp.le_trans hρ0 hρ4) ⟨rfl, Hp.le_trans hρ0 hρ4, rfl⟩
            · rw [hoU] at hckU
              have hFU := recOk_facts hoU
              have hlenU : (recB uu).length ≤ 30 + m * 83 := by
                rw [← recB_plain, hUp]
                have := wR_len r (accJ.map Im.plain) (fun x hx => by
                  obtain ⟨y, hy, rfl⟩ := List.mem_map.1 hx
                  have hyu : y ∈ uu.ims := by rw [← huu]; exact hy
                  exact (hFU.im y hyu).2.1)
                rw [List.length_map, halJ, hacl] at this
                exact this
              have hRs := fun ρ h => rreserve_spec ρ v1 r h
              have hCs := fun ρ h => rcost_spec ρ ⟨⟨va, acc.length, vc⟩, s', t', d'⟩ uu h
              have hrs : reserveN r = sectsB (30 + min (pagesN r.steps) 16 * 83) := by unfold reserveN; rw [hok, if_pos rfl, if_neg (by omega), if_neg (by omega), if_pos k4]
              have hcu : costN uu = sectsB (recB uu).length := by unfold costN; rw [hoU, if_pos rfl]
              unfold errN at hRs hCs
              rw [hok, hrs] at hRs
              rw [hoU, hcu] at hCs
              simp only [if_true] at hRs hCs
              have hcmp : sectsB (recB uu).length ≤ sectsB (30 + min (pagesN r.steps) 16 * 83) := sectsB_mono (by omega)
              have hpos := sectsB_pos (recB uu).length
              generalize sectsB (recB uu).length = S1 at *
              generalize sectsB (30 + min (pagesN r.steps) 16 * 83) = S2 at *
              repeat' (first | (refine tl_is (.func 34) ?_; refine qC rfl rfl (hckU) ?_; rintro v ρ' L' hle ⟨rfl, rfl, rfl⟩ <;> (try simp only [kM, kN, kO, if_true])) | (refine tl_is (.func 29) ?_; refine qC rfl rfl (hRs _ (hr.mono hρ4)) ?_; rintro v ρ' L' hle ⟨hl5, rfl, rfl⟩ <;> (try simp only [kM, kN, kO])) | (refine tl_is (.func 28) ?_; refine qC rfl rfl (hCs _ (hU.mono hl5)) ?_; rintro v ρ' L' hle ⟨hl6, rfl, rfl⟩ <;> (try simp only [kM, kN, kO])) | (refine iBu ?_; refine tl_y (y_buildN rfl) rfl rfl ?_) | (refine i_op ?_; first | (refine i_qq ?_; refine qQ ?_) | refine qEf ?_) | refine tl_nil ?_ | (refine i_tc ?_; refine qTc ?_) | (refine i_te ?_; refine qTe ?_) | intro _)
              refine qF (L' := []) (hle := Hp.le_trans hρ0 (Hp.le_trans hρ4 (Hp.le_trans hl5 hl6))) ?_
              exact ⟨bool_eq (by (try simp [*]); first | done | omega | (intros; omega) | (constructor <;> intros <;> (try simp_all) <;> omega)), Hp.le_trans hρ0 (Hp.le_trans hρ4 (Hp.le_trans hl5 hl6)), rfl⟩)
    · repeat' (first | (refine tl_is (.func 34) ?_; refine qC rfl rfl (hck) ?_; rintro v ρ' L' hle ⟨rfl, rfl, rfl⟩ <;> (try simp only [kM, kN, kO, if_true])) | (refine iBu ?_; refine tl_y (y_buildN rfl) rfl rfl ?_) | (refine i_op ?_; first | (refine i_qq ?_; refine qQ ?_) | refine qEf ?_) | refine tl_nil ?_ | (refine i_tc ?_; refine qTc ?_) | (refine i_te ?_; refine qTe ?_) | (refine i_gd ?_; refine tl_guard rfl rfl (fun hb => ?_) (fun hb => ?_) <;> (try simp only [decide_eq_true_eq, decide_eq_false_iff_not, Bool.not_eq_true, Bool.not_eq_false, beq_iff_eq, bne_iff_ne, ne_eq, decide_eq_decide, Bool.not_eq_eq_eq_not, Bool.not_true, Bool.not_false, beq_eq_false_iff_ne, bne_eq_false_iff_eq, Bool.and_eq_true, Bool.or_eq_true, Bool.and_eq_false_imp, Bool.or_eq_false_iff, bq2, bqt, bqf] at hb)) | (refine i_cond ?_; refine tc_cond rfl (fun hb => ?_) (fun hb => ?_) <;> (try simp only [decide_eq_true_eq, decide_eq_false_iff_not, Bool.not_eq_true, Bool.not_eq_false, beq_iff_eq, bne_iff_ne, ne_eq, decide_eq_decide, Bool.not_eq_eq_eq_not, Bool.not_true, Bool.not_false, beq_eq_false_iff_ne, bne_eq_false_iff_eq, Bool.and_eq_true, Bool.or_eq_true, Bool.and_eq_false_imp, Bool.or_eq_false_iff, bq2, bqt, bqf] at hb)) | intro _)
      all_goals first | (exfalso; omega) | exact qE (L' := []) (hle := hρ0) ⟨rfl, hρ0, rfl⟩
end Go.Proofs.E

namespace Go.Proofs.YtbchgeledcfklaaGreat.RecordWideLaw
open Go Go.ChangeShapes Go.WideShapes Go.ChangeAt Go.RowKit Go.Proofs.E
set_option linter.unusedVariables false

theorem own : ownKnob Tryz.prog.godebug = none := by kernel_rfl
theorem laidOut : laidOutB Tryz.prog = true := by kernel_rfl

set_option maxRecDepth 100000 in
theorem lifted (os : Os) (started : os.Started) (H : Type) (enc : TypeId × Value → H) :
    ReturnsInHanded {} Tryz.checked os 6 .any (Rows.recordWideSpec.pre6 enc Tryz.prog Tryz.f6 Rows.recordWideRow.domain false) (Rows.recordWideSpec.post enc Tryz.prog Tryz.f6 false true false false) := by
  refine returnsInHanded_of_change_sized (C := Tryz.checked) own started (by kernel_rfl) Tryz.func6
    (ChangeSpec.witness6 (enc := enc) (C := Tryz.checked) false ⟨#[], #[.agg ⟨[.int .i64 0, .int .u64 0, .int .i64 0, .int .u64 0, .int .u64 0, .slice none 0 0, .slice none 0 0, .int .i64 0, .slice none 0 0, .slice none 0 0]⟩, .slice none 0 0], []⟩ 8 (by kernel_rfl) (by kernel_rfl) (by kernel_rfl) (by kernel_rfl)) ?_
  intro W base args ds gs before hval0 hW hcnd hsz0 _
  have hval : ∀ (j : Nat) t v, Tryz.f6.params[j]? = some t → args[j]? = some v → Value.okWide Tryz.prog W .any base t v := hval0
  have hW' := hW
  obtain ⟨p, q, hA0, hV, rfl, hfz, hnd⟩ := hW
  have hA : DataW.TrodAll enc Tryz.prog W 0 (fun _ => true) true Tryz.f6.params.toList args.toList ds p := hA0
  have hsz : (DataW.weightsEach Tryz.prog (Tryz.f6.params.toList ++ Rows.recordWideSpec.plain.varTypes Tryz.prog) (ds ++ gs)).all (· ≤ reachBytes) = true := hsz0
  rw [Tryz.params6] at hA hval hsz
  obtain ⟨v0, vs0, d0, ds0, p0, q0, hargs, rfl, rfl, h0, r0⟩ := trodAll_cons hA
  obtain ⟨v1, vs1, d1, ds1, p1, q1, rfl, rfl, rfl, h1, r1⟩ := trodAll_cons r0
  obtain ⟨rfl, rfl, rfl⟩ := trodAll_nil r1
  obtain rfl : args = #[v0, v1] := by cases args; simp_all
  obtain ⟨rfl, rfl⟩ := trodVars_none hV
  have k0 := h0
  have k1 := h1
  have lt0 : ∀ x ∈ p0, x.block < W.heap.size := by obtain ⟨m, hm⟩ := k0; exact DataW.trod_lt m _ _ _ hm
  have lt1 : ∀ x ∈ p1, x.block < W.heap.size := by obtain ⟨m, hm⟩ := k1; exact DataW.trod_lt m _ _ _ hm
  obtain ⟨cs0, rfl, _⟩ := okWide_struct Tryz.underlying30 (hval 0 30 v0 rfl rfl)
  obtain ⟨o0, e0, ek0⟩ := opnS_rec2 _ _ _ h0.choose_spec (wts_of hsz (j := 0) rfl rfl)
  obtain rfl : cs0 = ⟨recV o0.1 o0.2⟩ := by
    cases cs0; simp only [Value.cells] at e0; rw [e0]
  obtain ⟨a1, n1, c1, rfl⟩ := okWide_slice Tryz.underlying25 (hval 1 25 v1 rfl rfl)
  obtain ⟨s1, e1, b1⟩ := (opnS_slice (sz := 7) (by' := 120) Tryz.underlying25 (by kernel_rfl) (by decide) (by kernel_rfl) opnS_image) _ _ _ h1.choose_spec (wts_of hsz (j := 1) rfl rfl)
  simp only [reachBytes] at b1
  obtain ⟨⟨y1, m1, z1, x1⟩, ec1⟩ : ∃ s, s = s1 := ⟨s1, rfl⟩
  subst ec1
  have ec1 := e1.cells
  simp only [Value.cells, List.cons.injEq, Value.slice.injEq, and_true] at ec1
  obtain ⟨rfl, rfl, rfl⟩ := ec1
  clear hA0 hval0
  obtain ⟨hA1, hP1, hc1, hb1⟩ := aIn_ofW imV_len e1
  refine (Spec.law (wide12_spec (hpOf W) o0.1 o0.2 ek0.1 a1 n1 c1 x1 hA1 hP1 hc1 hb1)).mono fun e W' ⟨he, bel⟩ => ?_
  subst he
  exact ⟨_, rfl, _, _, _, [], _, [], hW', trodAll_mk1 (shut_bool Tryz.underlying4 _), (trodAll_cons_mk (Below.trod laidOut (by kernel_rfl) (of_decide_eq_true (by kernel_rfl)) k0 bel lt0) (trodAll_cons_mk (Below.trod laidOut (by kernel_rfl) (of_decide_eq_true (by kernel_rfl)) k1 bel lt1) trodAll_mk0)), rfl, bel.frame _, fun h => by cases h⟩

theorem joinedA : (Rows.recordWideRow.inPlace == Tryz.checked.prog.inPlace 6) = true := by kernel_rfl
theorem joinedB : (Rows.recordWideRow.unfollowed == Tryz.checked.prog.unfollowed 6) = true := by kernel_rfl
theorem joinedC : (Rows.recordWideRow.recurses == Tryz.checked.prog.recurses 6) = true := by kernel_rfl
theorem joinedD : (Rows.recordWideRow.named == Tryz.checked.prog.varsNamed 6) = true := by kernel_rfl
theorem joined : joinedFacts Tryz.checked.prog 6 Tryz.f6 Rows.recordWideSpec Rows.recordWideRow = true := by
  unfold joinedFacts
  rw [joinedA, joinedB, joinedC, joinedD]
  kernel_rfl

theorem over : Rows.recordWideRow.holds Tryz.pinned (OpenSpec.ofChange Rows.recordWideSpec) :=
  OpenClaim.holds_of_wide 6 Tryz.f6 rfl rfl rfl rfl rfl rfl rfl ⟨rfl, rfl, rfl, rfl, rfl⟩ rfl rfl rfl rfl rfl (by kernel_rfl) Tryz.func6 joined
    (of_decide_eq_true (by kernel_rfl)) (by unfold Func.isWrapper; first | (rw [if_pos (by decide +kernel)]; kernel_rfl) | (rw [if_neg (by decide +kernel)]; exact ⟨rfl, rfl⟩))
    (fun os started H enc _ => lifted os started H enc)

theorem proved : Rows.RecordWideSaid := over
end Go.Proofs.YtbchgeledcfklaaGreat.RecordWideLaw

