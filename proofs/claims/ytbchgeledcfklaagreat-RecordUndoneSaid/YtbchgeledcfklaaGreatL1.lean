/- The law RecordUndone. Part 1 of 1. -/
import Derived.Test.YtbchgeledcfklaaGreatI17
import Derived.Test.YtbchgeledcfklaaGreatRows
namespace Go.Proofs.E
open Go
set_option linter.unusedVariables false
set_option linter.unusedSimpArgs false
set_option linter.unusedSectionVars false
set_option maxRecDepth 4000
set_option maxHeartbeats 1000000
attribute [local irreducible] Yl TL TC TE Spec YSpec R1 Hp.le EnvLe TS TR YS Stays
-- BN
def redoI (r : Rc) (page : Int) : Option Im := if recOk r then r.ims.find? (fun x => decide (x.page = page)) else none
def contO (o : Option Im) : List Value := match o with | some x => contV x.a.kind x.av | none => contV 0 ⟨none, 0, 0, none, 0, 0⟩
theorem idx_find {l : List Im} {page : Int} : (idxI (fun x : Im => decide (x.page = page)) l = -1 ∧ l.find? (fun x => decide (x.page = page)) = none) ∨ ∃ i, ∃ h : i < l.length, idxI (fun x : Im => decide (x.page = page)) l = (i : Int) ∧ l.find? (fun x => decide (x.page = page)) = some l[i] := by
  unfold idxI
  cases hf : l.findIdx? (fun x : Im => decide (x.page = page)) with
  | none =>
    left
    rw [List.findIdx?_eq_none_iff] at hf
    exact ⟨rfl, List.find?_eq_none.2 (fun x hx => by rw [hf x hx]; simp)⟩
  | some i =>
    right
    obtain ⟨h1, h2, h3⟩ := List.findIdx?_eq_some_iff_getElem.1 hf
    exact ⟨i, h1, rfl, List.find?_eq_some_iff_getElem.2 ⟨h2, i, h1, rfl, fun j hj => by have := h3 j hj; simpa using this⟩⟩
theorem redoes_spec (ρ : Hp) (v : RV) (r : Rc) (h : RcIn ρ v r) (page : Int) : Spec Tryz.prog 39 [.agg ⟨recV v r⟩, .int .i64 page] ρ []
    (fun z ρ' L' => z = .tuple ⟨[.agg ⟨contO (redoI r page)⟩, .bool (redoI r page).isSome]⟩ ∧ ρ' = ρ ∧ L' = []) := by
  have hck := rcheck_spec ρ v r h
  have hidx := fun nb => idxIm_spec ρ v.i.a v.i.n v.i.c r.ims h.i.at' h.i.big nb page
  have hin := h.i.at'.len
  have hn := h.i.big
  refine spec_enter Tryz.func39 rfl rfl rfl fun u R => ?_
  simp only [argsE, List.cons_append, List.nil_append]
  unfold redoI
  rcases idx_find (l := r.ims) (page := page) with ⟨e1, e2⟩ | ⟨i, hi, e1, e2⟩
  · rw [e1] at hidx
    rw [e2]
    have : (if recOk r = true then none else none : Option Im) = none := by split <;> rfl
    rw [this]
    repeat' (first | (refine tl_is (.func 115) ?_; refine qC rfl rfl (hidx _) ?_; rintro v ρ' L' hle ⟨rfl, rfl, rfl⟩ <;> (try simp only [kM, kN, kO])) | (refine iBu ?_; refine tl_y (y_buildN rfl) rfl rfl ?_) | (refine i_op ?_; first | (refine i_qq ?_; refine qQ ?_) | refine qEf ?_) | refine tl_nil ?_ | (refine i_tc ?_; refine qTc ?_) | (refine i_te ?_; refine qTe ?_) | intro _)
    exact qE ⟨rfl, rfl, rfl⟩
  · rw [e1] at hidx
    rw [e2]
    cases hok : recOk r
    · rw [hok] at hck
      repeat' (first | (refine tl_is (.func 115) ?_; refine qC rfl rfl (hidx _) ?_; rintro v ρ' L' hle ⟨rfl, rfl, rfl⟩ <;> (try simp only [kM, kN, kO])) | (refine tl_is (.func 34) ?_; refine qC rfl rfl (hck) ?_; rintro v ρ' L' hle ⟨rfl, rfl, rfl⟩ <;> (try simp only [kM, kN, kO, if_false, Bool.false_eq_true])) | (refine iBu ?_; refine tl_y (y_buildN rfl) rfl rfl ?_) | (refine i_op ?_; first | (refine i_qq ?_; refine qQ ?_) | refine qEf ?_) | refine tl_nil ?_ | (refine i_tc ?_; refine qTc ?_) | (refine i_te ?_; refine qTe ?_) | intro _)
      exact qE ⟨rfl, rfl, rfl⟩
    · rw [hok] at hck
      obtain ⟨b, off, C, T, fr, f1, hb, hfit, hc⟩ := h.i.at'.get hi
      have hsub : List.take 3 (List.drop (off + i * 7 + 4) C) = contV r.ims[i].a.kind r.ims[i].av := by
        have := congrArg (fun l => (l.drop 4).take 3) hc
        simp only [List.drop_take, List.take_take, List.drop_drop] at this
        exact this
      rw [if_pos rfl]
      generalize r.ims[i] = x at *
      rw [show recV v r = [.int .i64 r.kind, .int .u64 r.lsn, .int .i64 r.txn, .int .u64 r.prev, .int .u64 r.next, .slice (some ⟨b, off, none⟩) v.i.n v.i.c, .slice v.s.a v.s.n v.s.c, .int .i64 r.nextTxn, .slice v.t.a v.t.n v.t.c, .slice v.d.a v.d.n v.d.c] by rw [← f1]]
      rw [show recV v r = [.int .i64 r.kind, .int .u64 r.lsn, .int .i64 r.txn, .int .u64 r.prev, .int .u64 r.next, .slice (some ⟨b, off, none⟩) v.i.n v.i.c, .slice v.s.a v.s.n v.s.c, .int .i64 r.nextTxn, .slice v.t.a v.t.n v.t.c, .slice v.d.a v.d.n v.d.c] by rw [← f1]] at hck
      rw [f1] at hidx
      repeat' (first | (refine tl_is (.func 115) ?_; refine qC rfl rfl (hidx _) ?_; rintro v ρ' L' hle ⟨rfl, rfl, rfl⟩ <;> (try simp only [kM, kN, kO])) | (refine tl_is (.func 34) ?_; refine qC rfl rfl (hck) ?_; rintro v ρ' L' hle ⟨rfl, rfl, rfl⟩ <;> (try simp only [kM, kN, kO, if_true])) | (refine iBu ?_; refine tl_y (y_buildN rfl) rfl rfl ?_) | (refine i_op ?_; first | (refine i_qq ?_; refine qQ ?_) | refine qEf ?_) | refine tl_nil ?_ | (refine i_tc ?_; refine qTc ?_) | (refine i_te ?_; refine qTe ?_) | intro _)
      exact qE ⟨rfl, rfl, rfl⟩
end Go.Proofs.E

namespace Go.Proofs.E
open Go
set_option linter.unusedVariables false
set_option linter.unusedSimpArgs false
set_option linter.unusedSectionVars false
set_option maxRecDepth 4000
set_option maxHeartbeats 1000000
attribute [local irreducible] Yl TL TC TE Spec YSpec R1 Hp.le EnvLe TS TR YS Stays
-- BN
/-! ## what undoes a change -/
theorem up_imp {α : Type} {right right' : α → Bool} {by' : α → Int} {l : List α} (h : ∀ x ∈ l, right x = true → right' x = true) : ∀ k, upB right by' l k = true → upB right' by' l k = true := by
  intro k
  unfold upB
  generalize l.length = m
  induction k with
  | zero => exact fun e => e
  | succ k ih =>
    intro e
    rw [risesB, Bool.and_eq_true] at e
    rw [risesB, Bool.and_eq_true]
    refine ⟨ih e.1, ?_⟩
    have e2 := e.2
    cases hk : l[k]? with
    | none => rw [hk] at e2; cases e2
    | some x =>
      rw [hk] at e2
      dsimp only at e2 ⊢
      rw [Bool.and_eq_true] at e2 ⊢
      exact ⟨h x (List.mem_of_getElem? hk) e2.1, e2.2⟩
theorem up_lt {α : Type} {right : α → Bool} {by' : α → Int} {l : List α} (h : upB right by' l l.length = true) : ∀ k (hk : k < l.length) j (hj : j < k), by' (l[j]'(by omega)) < by' l[k] := by
  intro k
  induction k with
  | zero => intro _ j hj; omega
  | succ k ih =>
    intro hk j hj
    have h2 := (up_all h (k + 1) hk).2
    simp only [Nat.add_sub_cancel] at h2
    have h3 : by' (l[k]'(by omega)) < by' l[k + 1] := by
      rcases h2 with h2 | h2
      · omega
      · exact h2
    by_cases e : j = k
    · subst e; exact h3
    · have := ih (by omega) j (by omega); omega
theorem find_page {right : Im → Bool} {l : List Im} (h : upB right Im.page l l.length = true) (k : Nat) (hk : k < l.length) : l.find? (fun x => decide (x.page = (l[k]'hk).page)) = some l[k] := by
  rw [List.find?_eq_some_iff_getElem]
  refine ⟨by simp, k, hk, rfl, fun j hj => ?_⟩
  have := up_lt h k hk j hj
  simp only [Bool.not_eq_eq_eq_not, Bool.not_true, decide_eq_false_iff_not]
  omega
def unI (x : Im) : Im := ⟨x.page, nilCV, ztC, x.bv, x.b⟩
def uR (r : Rc) : Rc := ⟨5, r.lsn % 1099511627776 + 1, r.txn, r.lsn, r.prev, r.ims.map unI, [], 0, [], []⟩
theorem recOk_up2 {r : Rc} (h : recOk r = true) (k : r.kind = 2) : upB (imOk true) Im.page r.ims r.ims.length = true := by
  unfold recOk askOk at h
  rw [if_pos k, Bool.and_eq_true, Bool.and_eq_true, Bool.and_eq_true, Bool.and_eq_true] at h
  have := h.2.2.1.2
  unfold imsOk at this
  rw [Bool.and_eq_true] at this
  exact this.2
theorem uR_up {r : Rc} (h : recOk r = true) (k : r.kind = 2) : upB (imOk false) Im.page (uR r).ims (uR r).ims.length = true := by
  show upB (imOk false) Im.page (r.ims.map unI) (r.ims.map unI).length = true
  rw [up_map, List.length_map]
  refine up_imp (right := imOk true) (fun x hx e => ?_) _ (recOk_up2 h k)
  unfold imOk at e ⊢
  rw [Bool.and_eq_true, Bool.and_eq_true, Bool.and_eq_true] at e
  obtain ⟨e1, _, e3, _⟩ := e
  have e1' : pageOk (unI x).page = true := e1
  have e3' : contOk (unI x).a = true := e3
  rw [e1', e3']
  rfl
theorem uR_ok {r : Rc} (h : recOk r = true) (k : r.kind = 2) (hl : r.lsn < 1099511627776) : recOk (uR r) = true := by
  have f := recOk_facts h
  obtain ⟨g1, g2, g3⟩ := f.lsn
  have g4 := f.txn
  have g5 := f.il
  have g6 : r.txn ≠ 0 := by
    unfold recOk headOk at h
    rw [Bool.and_eq_true, Bool.and_eq_true, decide_eq_true_eq, decide_eq_true_eq] at h
    have := h.2.1.2.2.2.2.2.1
    omega
  have e := Nat.mod_eq_of_lt hl
  have hu := uR_up h k
  unfold recOk
  rw [Bool.and_eq_true, Bool.and_eq_true, Bool.and_eq_true]
  refine ⟨by simp [uR], ?_, ?_, ?_⟩
  · unfold headOk uR
    dsimp only
    rw [e]
    exact decide_eq_true (by omega)
  · unfold askOk
    rw [if_neg (by simp [uR]), if_neg (by simp [uR]), if_neg (by simp [uR]), if_pos (by simp [uR]), Bool.and_eq_true]
    refine ⟨?_, ?_⟩
    · unfold uR; dsimp only; rw [e]; exact decide_eq_true (by omega)
    · unfold imsOk
      rw [hu, Bool.and_true]
      exact decide_eq_true (by simp [uR]; omega)
  · unfold bareOk uR
    simp
theorem flatMap_len2 {α : Type} (f g : α → List UInt8) : ∀ (l : List α), (∀ x ∈ l, (f x).length = (g x).length) → (l.flatMap f).length = (l.flatMap g).length
  | [], _ => rfl
  | x :: r, h => by
    rw [List.flatMap_cons, List.flatMap_cons, List.length_append, List.length_append, h x (by simp), flatMap_len2 f g r (fun y hy => h y (by simp [hy]))]
theorem uR_len (r : Rc) : (recB (uR r)).length = (recB (undR r.ims)).length := by
  unfold recB recHB recTB imsB listB
  simp only [uR, undR, show ¬ ((5 : Int) = 2) by decide, show ¬ ((5 : Int) = 3) by decide, show ¬ ((5 : Int) = 4) by decide, if_false, if_true, decide_false, List.length_append, List.length_cons, be_length, List.flatMap_map, List.length_map]
  rw [flatMap_len2 (fun a => imB false (unI a)) (fun a => imB false (undI a)) r.ims (fun x _ => by simp [imB, unI, undI])]
theorem sectsB_pos (n : Nat) : 1 ≤ sectsB n := by unfold sectsB; omega
end Go.Proofs.E

namespace Go.Proofs.E
open Go
set_option linter.unusedVariables false
set_option linter.unusedSimpArgs false
set_option linter.unusedSectionVars false
set_option maxRecDepth 4000
set_option maxHeartbeats 1000000
attribute [local irreducible] Yl TL TC TE Spec YSpec R1 Hp.le EnvLe TS TR YS Stays
-- BN
theorem undone12_spec (ρ : Hp) (v : RV) (r0 : Rc) (h0 : RcW ρ v r0) (lsn : Int) :
    Spec Tryz.prog 10 [.agg ⟨recV v r0⟩, .int .u64 lsn] ρ [] (fun z ρ' L' => z = .bool true ∧ ρ.le ρ' ∧ L' = []) := by
  refine spec_enter Tryz.func10 rfl rfl rfl fun u R => ?_
  simp only [argsE, List.cons_append, List.nil_append]
  repeat' (first | (refine tl_is (.func 23) ?_; refine qC rfl rfl (wakes12_spec _) ?_; rintro v ρ' L' hle ⟨rfl, hl1, rfl⟩ <;> (try simp only [kM, kN, kO])) | (refine iBu ?_; refine tl_y (y_buildN rfl) rfl rfl ?_) | (refine i_op ?_; first | (refine i_qq ?_; refine qQ ?_) | refine qEf ?_) | refine tl_nil ?_ | (refine i_tc ?_; refine qTc ?_) | (refine i_te ?_; refine qTe ?_) | intro _)
  have hfew := few12_spec _ v r0 (h0.mono hl1)
  repeat' (first | (refine tl_is (.func 27) ?_; refine qC rfl rfl (hfew) ?_; rintro v ρ' L' hle ⟨hl2, v1, r, rfl, hr, hp, rfl⟩ <;> (try simp only [kM, kN, kO])) | (refine iBu ?_; refine tl_y (y_buildN rfl) rfl rfl ?_) | (refine i_op ?_; first | (refine i_qq ?_; refine qQ ?_) | refine qEf ?_) | refine tl_nil ?_ | (refine i_tc ?_; refine qTc ?_) | (refine i_te ?_; refine qTe ?_) | intro _)
  have hck := rcheck_spec _ v1 r hr
  have hρ0 := Hp.le_trans hl1 hl2
  cases hok : recOk r
  · rw [hok] at hck
    repeat' (first | (refine tl_is (.func 34) ?_; refine qC rfl rfl (hck) ?_; rintro v ρ' L' hle ⟨rfl, rfl, rfl⟩ <;> (try simp only [kM, kN, kO, if_false, Bool.false_eq_true])) | (refine iBu ?_; refine tl_y (y_buildN rfl) rfl rfl ?_) | (refine i_op ?_; first | (refine i_qq ?_; refine qQ ?_) | refine qEf ?_) | refine tl_nil ?_ | (refine i_tc ?_; refine qTc ?_) | (refine i_te ?_; refine qTe ?_) | intro _)
    exact qE (L' := []) (hle := hρ0) ⟨rfl, hρ0, rfl⟩
  · rw [hok] at hck
    by_cases k2 : r.kind = 2
    · have hF := recOk_facts hok
      have hA := hr.i.at'
      have hl := hA.len
      have hil := hF.il
      have hls := hF.lsn
      have hpn : r.prev < 18446744073709551616 := by omega
      repeat' (first | (refine tl_is (.func 34) ?_; refine qC rfl rfl (hck) ?_; rintro v ρ' L' hle ⟨rfl, rfl, rfl⟩ <;> (try simp only [kM, kN, kO, if_true])) | (refine iBu ?_; refine tl_y (y_buildN rfl) rfl rfl ?_) | (refine i_op ?_; first | (refine i_qq ?_; refine qQ ?_) | refine qEf ?_) | refine tl_nil ?_ | (refine i_tc ?_; refine qTc ?_) | (refine i_te ?_; refine qTe ?_) | intro _)
      have hlu : IntKind.u64.wrap ((r.lsn : Int).tmod 1099511627776 + 1) = ((r.lsn % 1099511627776 + 1 : Nat) : Int) := by
        rw [Int.tmod_eq_emod_of_nonneg (by omega), wrap_id (by simp only [lo, hi]; omega)]
        omega
      rw [hlu]
      obtain ⟨N, hN⟩ : ∃ N, r.lsn % 1099511627776 + 1 = N := ⟨_, rfl⟩
      rw [hN]
      rename_i rb ub
      refine tc_loop_g [(4, _), (5, _), (6, _), (43, _), (44, _)] (fun (ζ : (Nat) × (Value) × (List Value)) => [(45, .int .i64 ζ.1)]) (fun (ζ : (Nat) × (Value) × (List Value)) => ρ') (fun (ζ : (Nat) × (Value) × (List Value)) => [[(ub, .cells ⟨[.int .i64 5, .int .u64 (N : Nat), .int .i64 r.txn, .int .u64 r.lsn, .int .u64 r.prev, ζ.2.1, .slice none 0 0, .int .i64 0, .slice none 0 0, .slice none 0 0]⟩ 30 (0, 0))], ownC ζ.2.1 ((((r.ims.take ζ.1).map unI).map imV).flatten) ζ.2.2 68]) (fun (ζ : (Nat) × (Value) × (List Value)) => ζ.1 ≤ v1.i.n ∧ OwnS ζ.2.1 ζ.1 ((((r.ims.take ζ.1).map unI).map imV).flatten) ζ.2.2 7) (fun (ζ : (Nat) × (Value) × (List Value)) => v1.i.n - ζ.1) ((0, .slice none 0 0, [])) (⟨Nat.zero_le _, OwnS.nil 7⟩) ev_le ev_le rfl tk ?_
      rintro ⟨k, vv, sp⟩ hI
      try simp only [List.cons_append, List.nil_append, List.append_assoc, List.append_eq] at hI ⊢
      try dsimp only at hI ⊢
      obtain ⟨hk, hown⟩ := hI
      obtain ⟨va, vc, rfl, _⟩ := hown.slice
      by_cases hlt : k < v1.i.n
      · obtain ⟨b, off, C, T, fr, e1, hb, hfit, hc⟩ := hA.get (show k < r.ims.length by omega)
        have hx := List.take_succ_eq_append_getElem (show k < r.ims.length by omega)
        generalize r.ims[k]'(by omega) = x at *
        rw [e1]
        repeat' (first | (refine iBu ?_; refine tl_y (y_buildN rfl) rfl rfl ?_) | (refine i_op ?_; first | (refine i_qq ?_; refine qQ ?_) | refine qEf ?_) | refine tl_nil ?_ | (refine i_tc ?_; refine qTc ?_) | (refine i_te ?_; refine qTe ?_) | intro _)
        refine tl_buildSliceA (css := [imV (unI x)]) (sz := 7) rfl rfl rfl rfl (by simp) (by simp) rfl (fun bs => ?_)
        simp only [List.flatten_cons, List.flatten_nil, List.append_nil]
        refine tl_app (ys := imV (unI x)) (m := 1) rfl rfl hown (hR := by infer_instance) (SrcV.lit) rfl rfl (by decide) rfl (by omega) (by omega) rfl (fun v' sp' hown' => ?_)
        have hm : (((r.ims.take k).map unI).map imV).flatten ++ imV (unI x) = (((r.ims.take (k + 1)).map unI).map imV).flatten := by rw [hx]; simp
        rw [hm] at hown' ⊢
        obtain ⟨va', vc', rfl, _⟩ := hown'.slice
        repeat' (first | (refine iBu ?_; refine tl_y (y_buildN rfl) rfl rfl ?_) | (refine i_op ?_; first | (refine i_qq ?_; refine qQ ?_) | refine qEf ?_) | refine tl_nil ?_ | (refine i_tc ?_; refine qTc ?_) | (refine i_te ?_; refine qTe ?_) | intro _)
        rw [← e1]
        refine te_round_g (k + 1, _, sp') (⟨hlt, hown'⟩) ev_le ev_le rfl tk inferInstance (by first | omega | (dsimp only; omega))
      · rw [show r.ims.take k = r.ims by rw [show k = r.ims.length by omega, List.take_length]] at hown ⊢
        by_cases hmax : r.lsn = 1099511627776
        · have hN1 : N = 1 := by rw [← hN, hmax]
          repeat' (first | (refine iBu ?_; refine tl_y (y_buildN rfl) rfl rfl ?_) | (refine i_op ?_; first | (refine i_qq ?_; refine qQ ?_) | refine qEf ?_) | refine tl_nil ?_ | (refine i_tc ?_; refine qTc ?_) | (refine i_te ?_; refine qTe ?_) | intro _)
          exact qE (L' := []) (hle := hρ0) ⟨rfl, hρ0, rfl⟩
        · have hlt40 : r.lsn < 1099511627776 := by omega
          have hN1 : N = r.lsn + 1 := by rw [← hN, Nat.mod_eq_of_lt hlt40]
          have huo := uR_ok hok k2 hlt40
          have hup := uR_up hok k2
          have hup0 := recOk_up2 hok k2
          have hlen := uR_len r
          have hcu : costN (uR r) = sectsB (recB (undR r.ims)).length := by unfold costN; rw [huo, if_pos rfl, hlen]
          have hrs : reserveN r = sectsB (recB (undR r.ims)).length := by unfold reserveN; rw [hok, if_pos rfl, if_neg (by omega), if_pos k2]
          have hps := sectsB_pos (recB (undR r.ims)).length
          refine tc_freeze (ownC (.slice va k vc) (((r.ims.map unI).map imV).flatten) sp 68) (fun ρ3 hle3 hfz => ?_)
          obtain ⟨sa, sc, e1, hsc, hA2⟩ := hown.aIn (by simp; omega) (fun x _ => imV_len x) hfz
          cases e1
          have hU : RcIn ρ3 ⟨⟨va, k, vc⟩, ⟨none, 0, 0⟩, ⟨none, 0, 0⟩, ⟨none, 0, 0⟩⟩ (uR r) := ⟨⟨hA2, by dsimp only; omega, hsc⟩, fun x hx => by
            obtain ⟨y, hy, rfl⟩ := List.mem_map.1 hx
            exact ⟨CI.nil, ((hr.im y hy).b).mono hle3⟩, AS.nil, AS.nil, AS.nil, by simp [uR]⟩
          obtain ⟨uv, huv⟩ : ∃ uv, (⟨⟨va, k, vc⟩, ⟨none, 0, 0⟩, ⟨none, 0, 0⟩, ⟨none, 0, 0⟩⟩ : RV) = uv := ⟨_, rfl⟩
          have huw : [.int .i64 5, .int .u64 (N : Nat), .int .i64 r.txn, .int .u64 r.lsn, .int .u64 r.prev, .slice va k vc, .slice none 0 0, .int .i64 0, .slice none 0 0, .slice none 0 0] = recV uv (uR r) := by rw [← huv, ← hN]; rfl
          rw [huv] at hU
          have hRs := rreserve_spec ρ3 v1 r (hr.mono hle3)
          have hCs := fun ρ h => rcost_spec ρ uv (uR r) h
          unfold errN at hRs hCs
          rw [hok, hrs] at hRs
          rw [huo, hcu] at hCs
          simp only [if_true] at hRs hCs
          generalize sectsB (recB (undR r.ims)).length = S at *
          repeat' (first | (refine tl_is (.func 29) ?_; refine qC rfl rfl (hRs) ?_; rintro v ρ' L' hle ⟨hl3, rfl, rfl⟩ <;> (try simp only [kM, kN, kO])) | (refine iBu ?_; refine tl_y (y_buildN rfl) rfl rfl ?_) | (refine i_op ?_; first | (refine i_qq ?_; refine qQ ?_) | refine qEf ?_) | refine tl_nil ?_ | (refine i_tc ?_; refine qTc ?_) | (refine i_te ?_; refine qTe ?_) | intro _)
          rw [huw]
          have hρ3 := Hp.le_trans hle3 hl3
          repeat' (first | (refine tl_is (.func 28) ?_; refine qC rfl rfl (hCs _ (hU.mono hl3)) ?_; rintro v ρ' L' hle ⟨hl4, rfl, rfl⟩ <;> (try simp only [kM, kN, kO])) | (refine iBu ?_; refine tl_y (y_buildN rfl) rfl rfl ?_) | (refine i_op ?_; first | (refine i_qq ?_; refine qQ ?_) | refine qEf ?_) | refine tl_nil ?_ | (refine i_tc ?_; refine qTc ?_) | (refine i_te ?_; refine qTe ?_) | intro _)
          have hρ4 := Hp.le_trans hρ3 hl4
          have hU4 := hU.mono (Hp.le_trans hl3 hl4)
          have hr4 := hr.mono hρ4
          have hUd := undoable_spec _ uv (uR r) hU4
          rw [show (recOk (uR r) && decide ((uR r).kind = 2 ∨ (uR r).kind = 4)) = false by rw [huo]; rfl] at hUd
          refine tc_loop_g [(5, _), (6, _), (91, _), (92, _)] (fun (ζ : (Nat)) => [(93, .int .i64 ζ), (4, .bool false)]) (fun (ζ : (Nat)) => ρ') (fun (ζ : (Nat)) => []) (fun (ζ : (Nat)) => ζ ≤ v1.i.n) (fun (ζ : (Nat)) => v1.i.n - ζ) (0) (Nat.zero_le _) ev_le ev_le rfl tk ?_
          rintro j hI
          try simp only [List.cons_append, List.nil_append, List.append_assoc, List.append_eq] at hI ⊢
          try dsimp only at hI ⊢
          by_cases hlj : j < v1.i.n
          · obtain ⟨b, off, C, T, fr, e1, hb, hfit, hc⟩ := (hA.mono hρ4).get (show j < r.ims.length by omega)
            have hin := hr4.im _ (List.getElem_mem (show j < r.ims.length by omega))
            have hf1 : redoI r (r.ims[j]'(by omega)).page = some (r.ims[j]'(by omega)) := by
              unfold redoI
              rw [hok, if_pos rfl]
              exact find_page hup0 j (by omega)
            have hf2 : redoI (uR r) (r.ims[j]'(by omega)).page = some (unI (r.ims[j]'(by omega))) := by
              unfold redoI
              rw [huo, if_pos rfl]
              have := find_page hup j (by simp [uR]; omega)
              simpa [uR, unI] using this
            generalize r.ims[j]'(by omega) = x at *
            have q1 := redoes_spec _ v1 r hr4 x.page
            have q2 := redoes_spec _ uv (uR r) hU4 x.page
            rw [hf1] at q1
            rw [hf2] at q2
            simp only [contO, Option.isSome, unI] at q1 q2
            have q3 := same_spec _ x.av x.av x.a x.a hin.a.cin hin.a.cin
            have q4 := same_spec _ x.bv x.bv x.b x.b hin.b.cin hin.b.cin
            rw [decide_eq_true rfl] at q3 q4
            rw [e1]
            repeat' (first | (refine tl_is (.func 39) ?_; refine qC rfl rfl (q1) ?_; rintro v ρ' L' hle ⟨rfl, rfl, rfl⟩ <;> (try simp only [kM, kN, kO])) | (refine tl_is (.func 39) ?_; refine qC rfl rfl (q2) ?_; rintro v ρ' L' hle ⟨rfl, rfl, rfl⟩ <;> (try simp only [kM, kN, kO])) | (refine tl_is (.func 42) ?_; refine qC rfl rfl (q3) ?_; rintro v ρ' L' hle ⟨rfl, rfl, rfl⟩ <;> (try simp only [kM, kN, kO])) | (refine tl_is (.func 42) ?_; refine qC rfl rfl (q4) ?_; rintro v ρ' L' hle ⟨rfl, rfl, rfl⟩ <;> (try simp only [kM, kN, kO])) | (refine iBu ?_; refine tl_y (y_buildN rfl) rfl rfl ?_) | (refine i_op ?_; first | (refine i_qq ?_; refine qQ ?_) | refine qEf ?_) | refine tl_nil ?_ | (refine i_tc ?_; refine qTc ?_) | (refine i_te ?_; refine qTe ?_) | intro _)
            rw [← e1]
            refine te_round_g (j + 1) (hlj) ev_le ev_le rfl tk inferInstance (by first | omega | (dsimp only; omega))
          · repeat' (first | (refine tl_is (.func 31) ?_; refine qC rfl rfl (hUd) ?_; rintro v ρ' L' hle ⟨rfl, rfl, rfl⟩ <;> (try simp only [kM, kN, kO])) | (refine iBu ?_; refine tl_y (y_buildN rfl) rfl rfl ?_) | (refine i_op ?_; first | (refine i_qq ?_; refine qQ ?_) | refine qEf ?_) | refine tl_nil ?_ | (refine i_tc ?_; refine qTc ?_) | (refine i_te ?_; refine qTe ?_) | intro _)
            exact qE (L' := []) (hle := Hp.le_trans hρ0 hρ4) ⟨rfl, Hp.le_trans hρ0 hρ4, rfl⟩
    · repeat' (first | (refine tl_is (.func 34) ?_; refine qC rfl rfl (hck) ?_; rintro v ρ' L' hle ⟨rfl, rfl, rfl⟩ <;> (try simp only [kM, kN, kO, if_true])) | (refine iBu ?_; refine tl_y (y_buildN rfl) rfl rfl ?_) | (refine i_op ?_; first | (refine i_qq ?_; refine qQ ?_) | refine qEf ?_) | refine tl_nil ?_ | (refine i_tc ?_; refine qTc ?_) | (refine i_te ?_; refine qTe ?_) | intro _)
      exact qE (L' := []) (hle := hρ0) ⟨rfl, hρ0, rfl⟩
end Go.Proofs.E

namespace Go.Proofs.YtbchgeledcfklaaGreat.RecordUndoneLaw
open Go Go.ChangeShapes Go.WideShapes Go.ChangeAt Go.RowKit Go.Proofs.E
set_option linter.unusedVariables false

theorem own : ownKnob Tryz.prog.godebug = none := by kernel_rfl
theorem laidOut : laidOutB Tryz.prog = true := by kernel_rfl

set_option maxRecDepth 100000 in
theorem lifted (os : Os) (started : os.Started) (H : Type) (enc : TypeId × Value → H) :
    ReturnsInHanded {} Tryz.checked os 10 .any (Rows.recordUndoneSpec.pre6 enc Tryz.prog Tryz.f10 Rows.recordUndoneRow.domain false) (Rows.recordUndoneSpec.post enc Tryz.prog Tryz.f10 false true false false) := by
  refine returnsInHanded_of_change_sized (C := Tryz.checked) own started (by kernel_rfl) Tryz.func10
    (ChangeSpec.witness6 (enc := enc) (C := Tryz.checked) false ⟨#[], #[.agg ⟨[.int .i64 0, .int .u64 0, .int .i64 0, .int .u64 0, .int .u64 0, .slice none 0 0, .slice none 0 0, .int .i64 0, .slice none 0 0, .slice none 0 0]⟩, .int .u64 0], []⟩ 8 (by kernel_rfl) (by kernel_rfl) (by kernel_rfl) (by kernel_rfl)) ?_
  intro W base args ds gs before hval0 hW hcnd hsz0 _
  have hval : ∀ (j : Nat) t v, Tryz.f10.params[j]? = some t → args[j]? = some v → Value.okWide Tryz.prog W .any base t v := hval0
  have hW' := hW
  obtain ⟨p, q, hA0, hV, rfl, hfz, hnd⟩ := hW
  have hA : DataW.TrodAll enc Tryz.prog W 0 (fun _ => true) true Tryz.f10.params.toList args.toList ds p := hA0
  have hsz : (DataW.weightsEach Tryz.prog (Tryz.f10.params.toList ++ Rows.recordUndoneSpec.plain.varTypes Tryz.prog) (ds ++ gs)).all (· ≤ reachBytes) = true := hsz0
  rw [Tryz.params10] at hA hval hsz
  obtain ⟨v0, vs0, d0, ds0, p0, q0, hargs, rfl, rfl, h0, r0⟩ := trodAll_cons hA
  obtain ⟨v1, vs1, d1, ds1, p1, q1, rfl, rfl, rfl, h1, r1⟩ := trodAll_cons r0
  obtain ⟨rfl, rfl, rfl⟩ := trodAll_nil r1
  obtain rfl : args = #[v0, v1] := by cases args; simp_all
  obtain ⟨rfl, rfl⟩ := trodVars_none hV
  have k0 := h0
  have k1 := h1
  have lt0 : ∀ x ∈ p0, x.block < W.heap.size := by obtain ⟨m, hm⟩ := k0; exact DataW.trod_lt m _ _ _ hm
  have lt1 : ∀ x ∈ p1, x.block < W.heap.size := by obtain ⟨m, hm⟩ := k1; exact DataW.trod_lt m _ _ _ hm
  obtain ⟨cs0, rfl, _⟩ := okWide_struct Tryz.underlying30 (hval 0 30 v0 rfl rfl)
  obtain ⟨o0, e0, ek0⟩ := opnS_rec2 _ _ _ h0.choose_spec (wts_of hsz (j := 0) rfl rfl)
  obtain rfl : cs0 = ⟨recV o0.1 o0.2⟩ := by
    cases cs0; simp only [Value.cells] at e0; rw [e0]
  obtain ⟨a1, rfl, _, _, w1⟩ := open_int Tryz.underlying24 (hval 1 24 v1 rfl rfl) h1
  replace w1 := wf_bounds w1
  clear hA0 hval0
  refine (Spec.law (undone12_spec (hpOf W) o0.1 o0.2 ek0.1 a1)).mono fun e W' ⟨he, bel⟩ => ?_
  subst he
  exact ⟨_, rfl, _, _, _, [], _, [], hW', trodAll_mk1 (shut_bool Tryz.underlying4 _), (trodAll_cons_mk (Below.trod laidOut (by kernel_rfl) (of_decide_eq_true (by kernel_rfl)) k0 bel lt0) (trodAll_cons_mk (Below.trod laidOut (by kernel_rfl) (of_decide_eq_true (by kernel_rfl)) k1 bel lt1) trodAll_mk0)), rfl, bel.frame _, fun h => by cases h⟩

theorem joinedA : (Rows.recordUndoneRow.inPlace == Tryz.checked.prog.inPlace 10) = true := by kernel_rfl
theorem joinedB : (Rows.recordUndoneRow.unfollowed == Tryz.checked.prog.unfollowed 10) = true := by kernel_rfl
theorem joinedC : (Rows.recordUndoneRow.recurses == Tryz.checked.prog.recurses 10) = true := by kernel_rfl
theorem joinedD : (Rows.recordUndoneRow.named == Tryz.checked.prog.varsNamed 10) = true := by kernel_rfl
theorem joined : joinedFacts Tryz.checked.prog 10 Tryz.f10 Rows.recordUndoneSpec Rows.recordUndoneRow = true := by
  unfold joinedFacts
  rw [joinedA, joinedB, joinedC, joinedD]
  kernel_rfl

theorem over : Rows.recordUndoneRow.holds Tryz.pinned (OpenSpec.ofChange Rows.recordUndoneSpec) :=
  OpenClaim.holds_of_wide 10 Tryz.f10 rfl rfl rfl rfl rfl rfl rfl ⟨rfl, rfl, rfl, rfl, rfl⟩ rfl rfl rfl rfl rfl (by kernel_rfl) Tryz.func10 joined
    (of_decide_eq_true (by kernel_rfl)) (by unfold Func.isWrapper; first | (rw [if_pos (by decide +kernel)]; kernel_rfl) | (rw [if_neg (by decide +kernel)]; exact ⟨rfl, rfl⟩))
    (fun os started H enc _ => lifted os started H enc)

theorem proved : Rows.RecordUndoneSaid := over
end Go.Proofs.YtbchgeledcfklaaGreat.RecordUndoneLaw

