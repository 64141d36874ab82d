/- The law RosterBack. Part 1 of 2. -/
import Derived.Test.YtjajdpfdhokkhaaGreatR16
namespace Go.Proofs.E
open Go
set_option linter.unusedVariables false
set_option linter.unusedSimpArgs false

section
variable {x : Cx} {Q : Exit → Act → World → Prop} {E : Env} {ρ : Hp} {L : SH} {ops : Array Oper} {rest tail : List Oper} {ty : TypeId} {pos : String} {af : Array Edge} {S : World → Prop} {l : List Oper} {listed : List Bool} {fuel : Nat}
end
attribute [local irreducible] Yl TL TC TE Spec YSpec R1 Hp.le EnvLe TS TR YS Stays

section
variable {x : Cx} {E : Env} {ρ : Hp} {L : SH} {ty : TypeId}
end
/-! ## steps whose proofs are found; `i..` asks which step it is, `q..` takes it, `r..` takes it in a region of any order, `s..` in a drawn head -/
section
variable {x : Cx} {Q : Exit → Act → World → Prop} {E : Env} {ρ ρ0 : Hp} {L Ls : SH} {ops : Array Oper} {rest : List Oper} {ty : TypeId} {pos : String} {af : Array Edge} {d : Nat} {v : Value} {dd : Option Nat} {gd : Nat × Bool} {op : Op} {l : List Oper} {listed : List Bool} {fuel : Nat} {tail : List Oper}
theorem wAd (n0 : Nat) {p q : Operand} {t t' : Nat} {j t0 : Nat} {b0 : Bool} (k : TR x l (Stays x ρ0 Ls) fuel (lset listed n0) Q ((d, v) :: E) ρ L) (hb : takeB l listed n0 = true := by decide +kernel) (hi : l[n0]? = some ⟨some d, (.binOp .add t p q t'), ty, pos, af, some (j, b0)⟩ := by rfl) (hj : (l[j]?).bind (·.dst) = some t0 := by rfl) (he : lk E t0 = some (.bool b0) := by rfl) (y : ∀ ρ', ρ0.le ρ' → Yl x ((.binOp .add t p q t')) ty E ρ' Ls v := by intro _ _; first | exact y_add rfl rfl (by simp only [Go.Proofs.E.lo, Go.Proofs.E.hi]; omega) | exact y_add_w rfl rfl) (hd : Nat.blt d x.N = true := by rfl) : TR x l (Stays x ρ0 Ls) (fuel + 1) listed Q E ρ L := tr_want n0 hb hi hj he (ys_of' (fun _ h => h) y) hd k
end
end Go.Proofs.E

namespace Go.Proofs.E
open Go
set_option linter.unusedVariables false
set_option linter.unusedSimpArgs false
set_option linter.unusedSectionVars false
set_option maxRecDepth 4000
set_option maxHeartbeats 1000000
attribute [local irreducible] Yl TL TC TE Spec YSpec R1 Hp.le EnvLe TS TR YS Stays
-- BN
def ckOf (x : Tx) : CkT := ⟨x.num, x.first, x.last, x.undo, x.state⟩
end Go.Proofs.E

namespace Go.Proofs.E
open Go
set_option linter.unusedVariables false
set_option linter.unusedSimpArgs false
set_option linter.unusedSectionVars false
set_option maxRecDepth 4000
set_option maxHeartbeats 1000000
attribute [local irreducible] Yl TL TC TE Spec YSpec R1 Hp.le EnvLe TS TR YS Stays
-- BN
theorem rosckpt_spec (ρ : Hp) (v : SV) (r : Ros) (h : RosIn ρ v r) : Spec Tryz.prog 41 [.agg ⟨rosV v r⟩] ρ []
    (fun z ρ' L' => ρ.le ρ' ∧ ∃ s : SV, z = .slice s.a s.n s.c ∧ AS ρ' 5 ckTV s (if rosOk r then r.txns.map ckOf else []) ∧ L' = []) := by
  have hl := h.at'.at'.len
  have hn := h.at'.big
  have hA := h.at'.at'
  have hck := roscheck_spec ρ v r h
  refine spec_enter Tryz.func41 rfl rfl rfl fun u R => ?_
  simp only [argsE, List.cons_append, List.nil_append]
  cases hok : rosOk r
  · rw [hok] at hck
    repeat' (first | (refine tl_is (.func 42) ?_; refine qC rfl rfl (hck) ?_; rintro v ρ' L' hle ⟨rfl, rfl, rfl⟩ <;> (try simp only [kM, kN, kO, if_false, Bool.false_eq_true])) | (refine iBu ?_; refine tl_y (y_buildN rfl) rfl rfl ?_) | (refine i_op ?_; first | (refine i_qq ?_; refine qQ ?_) | refine qEf ?_) | refine tl_nil ?_ | (refine i_tc ?_; refine qTc ?_) | (refine i_te ?_; refine qTe ?_) | intro _)
    exact qE ⟨Hp.le_refl _, nilS, rfl, AS.nil, rfl⟩
  · rw [hok] at hck
    simp only [if_true]
    repeat' (first | (refine tl_is (.func 42) ?_; refine qC rfl rfl (hck) ?_; rintro v ρ' L' hle ⟨rfl, rfl, rfl⟩ <;> (try simp only [kM, kN, kO, if_true])) | (refine iBu ?_; refine tl_y (y_buildN rfl) rfl rfl ?_) | (refine i_op ?_; first | (refine i_qq ?_; refine qQ ?_) | refine qEf ?_) | refine tl_nil ?_ | (refine i_tc ?_; refine qTc ?_) | (refine i_te ?_; refine qTe ?_) | intro _)
    refine tc_loop_g [(2, _), (10, _), (11, _)] (fun (ζ : (Nat) × (Value) × (List Value)) => [(12, .int .i64 ζ.1), (3, ζ.2.1)]) (fun (ζ : (Nat) × (Value) × (List Value)) => ρ') (fun (ζ : (Nat) × (Value) × (List Value)) => [ownC ζ.2.1 ((((r.txns.take ζ.1).map ckOf).map ckTV).flatten) ζ.2.2 81]) (fun (ζ : (Nat) × (Value) × (List Value)) => ζ.1 ≤ v.n ∧ OwnS ζ.2.1 ζ.1 ((((r.txns.take ζ.1).map ckOf).map ckTV).flatten) ζ.2.2 5) (fun (ζ : (Nat) × (Value) × (List Value)) => v.n - ζ.1) ((0, .slice none 0 0, [])) (⟨Nat.zero_le _, OwnS.nil 5⟩) ev_le ev_le rfl tk ?_
    rintro ⟨k, vv, sp⟩ hI
    try simp only [List.cons_append, List.nil_append, List.append_assoc, List.append_eq] at hI ⊢
    try dsimp only at hI ⊢
    obtain ⟨hk, hown⟩ := hI
    by_cases hlt : k < v.n
    · obtain ⟨b, off, C, T, fr, e1, hb, hfit, hc⟩ := hA.get (show k < r.txns.length by omega)
      have hx := List.take_succ_eq_append_getElem (show k < r.txns.length by omega)
      generalize r.txns[k]'(by omega) = x at *
      rw [e1]
      repeat' (first | (refine iBu ?_; refine tl_y (y_buildN rfl) rfl rfl ?_) | (refine i_op ?_; first | (refine i_qq ?_; refine qQ ?_) | refine qEf ?_) | refine tl_nil ?_ | (refine i_tc ?_; refine qTc ?_) | (refine i_te ?_; refine qTe ?_) | intro _)
      refine tl_buildSliceA (css := [ckTV (ckOf x)]) (sz := 5) rfl rfl rfl rfl (by simp) (by simp) rfl (fun bs => ?_)
      simp only [List.flatten_cons, List.flatten_nil, List.append_nil]
      refine tl_app (ys := ckTV (ckOf x)) (m := 1) rfl rfl hown (hR := by infer_instance) (SrcV.lit) rfl rfl (by decide) rfl (by omega) (by omega) rfl (fun v' sp' hown' => ?_)
      have hm : (((r.txns.take k).map ckOf).map ckTV).flatten ++ ckTV (ckOf x) = (((r.txns.take (k + 1)).map ckOf).map ckTV).flatten := by rw [hx]; simp
      rw [hm] at hown' ⊢
      repeat' (first | (refine iBu ?_; refine tl_y (y_buildN rfl) rfl rfl ?_) | (refine i_op ?_; first | (refine i_qq ?_; refine qQ ?_) | refine qEf ?_) | refine tl_nil ?_ | (refine i_tc ?_; refine qTc ?_) | (refine i_te ?_; refine qTe ?_) | intro _)
      rw [← e1]
      refine te_round_g (k + 1, v', sp') (⟨hlt, hown'⟩) ev_le ev_le rfl tk inferInstance (by first | omega | (dsimp only; omega))
    · have hk2 : k = r.txns.length := by omega
      rw [show r.txns.take k = r.txns by rw [hk2, List.take_length]] at hown ⊢
      repeat' (first | (refine iBu ?_; refine tl_y (y_buildN rfl) rfl rfl ?_) | (refine i_op ?_; first | (refine i_qq ?_; refine qQ ?_) | refine qEf ?_) | refine tl_nil ?_ | (refine i_tc ?_; refine qTc ?_) | (refine i_te ?_; refine qTe ?_) | intro _)
      refine te_freeze (ownC vv (((r.txns.map ckOf).map ckTV).flatten) sp 81) (fun ρ3 hle3 hfz => ?_)
      obtain ⟨sa, sc, e1, hsc, hA2⟩ := hown.aIn (by simp; omega) (fun x _ => ckTV_len x) hfz
      subst e1
      exact qE ⟨hle3, ⟨sa, k, sc⟩, rfl, ⟨hA2, by dsimp only; omega, hsc⟩, rfl⟩
end Go.Proofs.E

namespace Go.Proofs.E
open Go
set_option linter.unusedVariables false
set_option linter.unusedSimpArgs false
set_option linter.unusedSectionVars false
set_option maxRecDepth 4000
set_option maxHeartbeats 1000000
attribute [local irreducible] Yl TL TC TE Spec YSpec R1 Hp.le EnvLe TS TR YS Stays
-- BN
theorem txs_back {next : Int} : ∀ {l : List Tx} {last : Int}, txsB next last l = true → txsB next last ((l.map ckOf).map ofCk) = true
  | [], _, _ => rfl
  | x :: r, last, h => by
    rw [txsB, Bool.and_eq_true] at h
    simp only [List.map_cons]
    rw [txsB, Bool.and_eq_true]
    refine ⟨?_, txs_back h.2⟩
    have := h.1
    unfold txOk at this ⊢
    rw [Bool.and_eq_true] at this
    rw [Bool.and_eq_true, Bool.and_eq_true]
    exact ⟨this.1, rfl, rfl⟩
theorem ros_back {r : Ros} (h : rosOk r = true) : rosOk ⟨r.next, (r.txns.map ckOf).map ofCk⟩ = true := by
  unfold rosOk at h ⊢
  rw [Bool.and_eq_true, decide_eq_true_eq] at h ⊢
  exact ⟨⟨h.1.1, h.1.2.1, by simpa using h.1.2.2⟩, txs_back h.2⟩
end Go.Proofs.E

namespace Go.Proofs.E
open Go
set_option linter.unusedVariables false
set_option linter.unusedSimpArgs false
set_option linter.unusedSectionVars false
set_option maxRecDepth 4000
set_option maxHeartbeats 1000000
attribute [local irreducible] Yl TL TC TE Spec YSpec R1 Hp.le EnvLe TS TR YS Stays
-- BN
/-! ## the law RosterBack -/
theorem leastF_first : ∀ {l m : List TxP} {n : Nat}, l.map TxP.first = m.map TxP.first → leastF n l = leastF n m
  | [], [], _, _ => rfl
  | a :: l, b :: m, n, h => by
    simp only [List.map_cons, List.cons.injEq] at h
    rw [leastF, leastF, h.1]
    exact leastF_first h.2
theorem resN_le : ∀ {l m : List TxP}, (∀ t ∈ m, TxG t) → l.map (fun t => (t.state, t.stack)) = m.map (fun t => (t.state, ([] : List Lf))) → (resL l).sum ≤ (resL m).sum
  | [], [], _, _ => by simp [resL]
  | a :: l, b :: m, hg, h => by
    simp only [List.map_cons, List.cons.injEq, Prod.mk.injEq] at h
    obtain ⟨⟨h1, h2⟩, h3⟩ := h
    have ih := resN_le (fun t ht => hg t (by simp [ht])) h3
    have e1 : (resL (a :: l)).sum = (costL a).sum + (resL l).sum := by simp [resL]
    have e2 : (resL (b :: m)).sum = (costL b).sum + (resL m).sum := by simp [resL]
    have e3 : (costL b).sum = (costL a).sum + (b.stack.map Lf.cost).sum := by
      unfold costL
      rw [h1, h2]
      simp only [List.map_nil, List.append_nil, List.sum_cons, List.sum_append]
      omega
    have hb := sum_bound (l := b.stack.map Lf.cost) (fun x hx => by
      obtain ⟨s, hs, rfl⟩ := List.mem_map.1 hx
      have := (hg b (by simp)).st s hs; omega)
    omega
end Go.Proofs.E

namespace Go.Proofs.E
open Go
set_option linter.unusedVariables false
set_option linter.unusedSimpArgs false
set_option linter.unusedSectionVars false
set_option maxRecDepth 4000
set_option maxHeartbeats 1000000
attribute [local irreducible] Yl TL TC TE Spec YSpec R1 Hp.le EnvLe TS TR YS Stays
-- BN
theorem ckOf_of (l : List CkT) : (l.map ofCk).map ckOf = l := by
  rw [List.map_map]
  conv => rhs; rw [← List.map_id l]
  apply List.map_congr_left
  intro x _
  rfl
theorem rosBack_spec (ρ : Hp) (v : SV) (r : Ros) (h : RosW ρ v r) : Spec Tryz.prog 8 [.agg ⟨rosV v r⟩] ρ [] (fun z ρ' L' => z = .bool true ∧ ρ.le ρ' ∧ L' = []) := by
  refine spec_enter Tryz.func8 rfl rfl rfl fun u R => ?_
  simp only [argsE, List.cons_append, List.nil_append]
  repeat' (first | (refine tl_is (.func 32) ?_; refine qC rfl rfl (wakes18_spec _) ?_; rintro v ρ' L' hle ⟨rfl, hl1, rfl⟩ <;> (try simp only [kM, kN, kO])) | (refine tl_is (.func 36) ?_; refine qC rfl rfl (few18_spec _ v r (h.mono hl1)) ?_; rintro v ρ' L' hle ⟨hl2, v1, ro, rfl, hR, _, rfl⟩ <;> (try simp only [kM, kN, kO])) | (refine iBu ?_; refine tl_y (y_buildN rfl) rfl rfl ?_) | (refine i_op ?_; first | (refine i_qq ?_; refine qQ ?_) | refine qEf ?_) | refine tl_nil ?_ | (refine i_tc ?_; refine qTc ?_) | (refine i_te ?_; refine qTe ?_) | intro _)
  rename_i ρ2 _ _ _
  have hck := fun ρ3 (hh : RosIn ρ3 v1 ro) => roscheck_spec ρ3 v1 ro hh
  have hcp := rosckpt_spec _ v1 ro hR
  cases hok : rosOk ro
  · rw [hok] at hcp
    simp only [hok, Bool.false_eq_true, if_false] at hck hcp
    repeat' (first | (refine tl_is (.func 41) ?_; refine qC rfl rfl (hcp) ?_; rintro v ρ' L' hle ⟨hl3, s1, rfl, hs1, rfl⟩ <;> (try simp only [kM, kN, kO])) | (refine tl_is (.func 42) ?_; refine qC rfl rfl (hck _ (hR.mono hl3)) ?_; rintro v ρ' L' hle ⟨rfl, rfl, rfl⟩ <;> (try simp only [kM, kN, kO])) | (refine iBu ?_; refine tl_y (y_buildN rfl) rfl rfl ?_) | (refine i_op ?_; first | (refine i_qq ?_; refine qQ ?_) | refine qEf ?_) | refine tl_nil ?_ | (refine i_tc ?_; refine qTc ?_) | (refine i_te ?_; refine qTe ?_) | intro _)
    have hn := hs1.at'.len
    simp only [List.length_nil] at hn
    rw [← hn]
    repeat' (first | (refine iBu ?_; refine tl_y (y_buildN rfl) rfl rfl ?_) | (refine i_op ?_; first | (refine i_qq ?_; refine qQ ?_) | refine qEf ?_) | refine tl_nil ?_ | (refine i_tc ?_; refine qTc ?_) | (refine i_te ?_; refine qTe ?_) | intro _)
    exact qE (L' := []) (hle := Hp.le_trans hl1 (Hp.le_trans hl2 hl3)) ⟨rfl, Hp.le_trans hl1 (Hp.le_trans hl2 hl3), rfl⟩
  · rw [hok] at hcp
    simp only [hok, if_true] at hck hcp
    have hG : RosG ro.p := rosG_iff.1 (by rw [rosOk_p]; exact hok)
    have hb := ros_back hok
    have hfr : ∀ ρ3 s, AS ρ3 5 ckTV s (ro.txns.map ckOf) → Spec Tryz.prog 33 [.int .i64 ro.next, .slice s.a s.n s.c] ρ3 [] (fun z ρ' L' => ρ3.le ρ' ∧ ∃ v : SV, z = .tuple ⟨[.agg ⟨rosV v ⟨ro.next, (ro.txns.map ckOf).map ofCk⟩⟩, .int .i64 0]⟩ ∧ RosIn ρ' v ⟨ro.next, (ro.txns.map ckOf).map ofCk⟩ ∧ L' = []) := fun ρ3 s hs => by
      have := from_ros_spec ρ3 ro.next s _ hs
      rw [show fromR ro.next (ro.txns.map ckOf) = ⟨ro.next, (ro.txns.map ckOf).map ofCk⟩ from if_pos hb, show fromE ro.next (ro.txns.map ckOf) = 0 from if_pos hb] at this
      exact this
    have hcp2 : ∀ ρ3 v3, RosIn ρ3 v3 ⟨ro.next, (ro.txns.map ckOf).map ofCk⟩ → Spec Tryz.prog 41 [.agg ⟨rosV v3 ⟨ro.next, (ro.txns.map ckOf).map ofCk⟩⟩] ρ3 [] (fun z ρ' L' => ρ3.le ρ' ∧ ∃ s : SV, z = .slice s.a s.n s.c ∧ AS ρ' 5 ckTV s (ro.txns.map ckOf) ∧ L' = []) := fun ρ3 v3 hh => by
      have := rosckpt_spec ρ3 v3 _ hh
      rw [hb] at this
      simp only [if_true] at this
      rw [ckOf_of] at this
      exact this
    have hle1 : leastP (⟨ro.next, (ro.txns.map ckOf).map ofCk⟩ : Ros).p = leastP ro.p := by
      unfold leastP
      refine leastF_first ?_
      simp only [Ros.p, List.map_map]
      rfl
    have hre1 : resN (⟨ro.next, (ro.txns.map ckOf).map ofCk⟩ : Ros).p ≤ resN ro.p := by
      unfold resN
      refine resN_le (fun t ht => (hG.tx t ht).2.2) ?_
      simp only [Ros.p, List.map_map]
      rfl
    have hLs := fun ρ3 (hh : RosIn ρ3 v1 ro) => rleast_spec ρ3 v1 ro hh
    have hLa := fun ρ3 v3 (hh : RosIn ρ3 v3 ⟨ro.next, (ro.txns.map ckOf).map ofCk⟩) => rleast_spec ρ3 v3 _ hh
    have hRs := fun ρ3 (hh : RosIn ρ3 v1 ro) => reserved_spec ρ3 v1 ro hh
    have hRa := fun ρ3 v3 (hh : RosIn ρ3 v3 ⟨ro.next, (ro.txns.map ckOf).map ofCk⟩) => reserved_spec ρ3 v3 _ hh
    simp only [hok, if_true] at hLs hRs
    simp only [hb, if_true, hle1] at hLa hRa
    generalize resN (⟨ro.next, (ro.txns.map ckOf).map ofCk⟩ : Ros).p = ra at *
    generalize resN ro.p = rr at *
    generalize leastP ro.p = le at *
    repeat' (first | (refine tl_is (.func 41) ?_; refine qC rfl rfl (hcp) ?_; rintro v ρ' L' hle ⟨hl3, s1, rfl, hs1, rfl⟩ <;> (try simp only [kM, kN, kO])) | (refine tl_is (.func 42) ?_; refine qC rfl rfl (hck _ (hR.mono hl3)) ?_; rintro v ρ' L' hle ⟨rfl, rfl, rfl⟩ <;> (try simp only [kM, kN, kO])) | (refine tl_is (.func 33) ?_; refine qC rfl rfl (hfr _ s1 hs1) ?_; rintro v ρ' L' hle ⟨hl4, v3, rfl, hR3, rfl⟩ <;> (try simp only [kM, kN, kO])) | (refine tl_is (.func 41) ?_; refine qC rfl rfl (hcp2 _ v3 hR3) ?_; rintro v ρ' L' hle ⟨hl5, s4, rfl, hs4, rfl⟩ <;> (try simp only [kM, kN, kO])) | (refine iBu ?_; refine tl_y (y_buildN rfl) rfl rfl ?_) | (refine i_op ?_; first | (refine i_qq ?_; refine qQ ?_) | refine qEf ?_) | refine tl_nil ?_ | (refine i_tc ?_; refine qTc ?_) | (refine i_te ?_; refine qTe ?_) | intro _)
    have hbig := hs1.big
    have n1 := hR.at'.at'.len
    have n2 := hs1.at'.len
    have n3 := hs4.at'.len
    simp only [List.length_map] at n2 n3
    have hz0 := Hp.le_trans hl1 (Hp.le_trans hl2 (Hp.le_trans hl3 (Hp.le_trans hl4 hl5)))
    have hR' := hR.mono (Hp.le_trans hl3 (Hp.le_trans hl4 hl5))
    have hR3' := hR3.mono hl5
    have hs1' := hs1.mono (Hp.le_trans hl4 hl5)
    refine tc_any (Stays _ _ ([[(_, .cells ⟨rosV v3 ⟨ro.next, (ro.txns.map ckOf).map ofCk⟩⟩ 34 (0, 0))], [(_, .cells ⟨rosV v1 ro⟩ 34 (0, 0))]])) (stays_of (hT := tk) (Hp.le_refl _)) ?_
    all_goals refine rMv 0 ?_
    all_goals refine rCm 1 ?_
    all_goals refine rMv 2 ?_
    all_goals (first | refine wSkip 3 ?_ | refine wSkipU 3 ?_ | refine wMv 3 ?_ | (refine tr_guard (t := 33) rfl (fun hb => ?_) (fun hb => ?_) <;> (try simp only [kk] at hb) <;> first | refine wSkip 3 ?_ | refine wSkipU 3 ?_ | refine wMv 3 ?_))
    all_goals (first | refine wSkip 4 ?_ | refine wSkipU 4 ?_ | refine wBi 4 ?_ | (refine tr_guard (t := 33) rfl (fun hb => ?_) (fun hb => ?_) <;> (try simp only [kk] at hb) <;> first | refine wSkip 4 ?_ | refine wSkipU 4 ?_ | refine wBi 4 ?_))
    all_goals (first | refine wSkip 5 ?_ | refine wSkipU 5 ?_ | refine wFa 5 ?_ | (refine tr_guard (t := 33) rfl (fun hb => ?_) (fun hb => ?_) <;> (try simp only [kk] at hb) <;> first | refine wSkip 5 ?_ | refine wSkipU 5 ?_ | refine wFa 5 ?_))
    all_goals (first | refine wSkip 6 ?_ | refine wSkipU 6 ?_ | refine wLd 6 ?_ | (refine tr_guard (t := 33) rfl (fun hb => ?_) (fun hb => ?_) <;> (try simp only [kk] at hb) <;> first | refine wSkip 6 ?_ | refine wSkipU 6 ?_ | refine wLd 6 ?_))
    all_goals (first | refine wSkip 7 ?_ | refine wSkipU 7 ?_ | refine wBi 7 ?_ | (refine tr_guard (t := 33) rfl (fun hb => ?_) (fun hb => ?_) <;> (try simp only [kk] at hb) <;> first | refine wSkip 7 ?_ | refine wSkipU 7 ?_ | refine wBi 7 ?_))
    all_goals (first | refine wSkip 8 ?_ | refine wSkipU 8 ?_ | refine wCm 8 ?_ | (refine tr_guard (t := 33) rfl (fun hb => ?_) (fun hb => ?_) <;> (try simp only [kk] at hb) <;> first | refine wSkip 8 ?_ | refine wSkipU 8 ?_ | refine wCm 8 ?_))
    all_goals refine rPk 9 ?_
    all_goals refine rMv 10 ?_
    all_goals (first | refine wSkip 11 ?_ | refine wSkipU 11 ?_ | refine wMv 11 ?_ | (refine tr_guard (t := 41) rfl (fun hb => ?_) (fun hb => ?_) <;> (try simp only [kk] at hb) <;> first | refine wSkip 11 ?_ | refine wSkipU 11 ?_ | refine wMv 11 ?_))
    all_goals (first | refine wSkip 12 ?_ | refine wSkipU 12 ?_ | refine wBi 12 ?_ | (refine tr_guard (t := 41) rfl (fun hb => ?_) (fun hb => ?_) <;> (try simp only [kk] at hb) <;> first | refine wSkip 12 ?_ | refine wSkipU 12 ?_ | refine wBi 12 ?_))
    all_goals (first | refine wSkip 13 ?_ | refine wSkipU 13 ?_ | refine wMv 13 ?_ | (refine tr_guard (t := 41) rfl (fun hb => ?_) (fun hb => ?_) <;> (try simp only [kk] at hb) <;> first | refine wSkip 13 ?_ | refine wSkipU 13 ?_ | refine wMv 13 ?_))
    all_goals (first | refine wSkip 14 ?_ | refine wSkipU 14 ?_ | refine wBi 14 ?_ | (refine tr_guard (t := 41) rfl (fun hb => ?_) (fun hb => ?_) <;> (try simp only [kk] at hb) <;> first | refine wSkip 14 ?_ | refine wSkipU 14 ?_ | refine wBi 14 ?_))
    all_goals (first | refine wSkip 15 ?_ | refine wSkipU 15 ?_ | refine wCm 15 ?_ | (refine tr_guard (t := 41) rfl (fun hb => ?_) (fun hb => ?_) <;> (try simp only [kk] at hb) <;> first | refine wSkip 15 ?_ | refine wSkipU 15 ?_ | refine wCm 15 ?_))
    all_goals refine rPk 16 ?_
    all_goals refine rMv 17 ?_
    all_goals (first | refine wSkip 18 ?_ | refine wSkipU 18 ?_ | refine wLd 18 ?_ | (refine tr_guard (t := 48) rfl (fun hb => ?_) (fun hb => ?_) <;> (try simp only [kk] at hb) <;> first | refine wSkip 18 ?_ | refine wSkipU 18 ?_ | refine wLd 18 ?_))
    all_goals (first | refine wSkip 20 ?_ | refine wSkipU 20 ?_ | refine wLd 20 ?_ | (refine tr_guard (t := 48) rfl (fun hb => ?_) (fun hb => ?_) <;> (try simp only [kk] at hb) <;> first | refine wSkip 20 ?_ | refine wSkipU 20 ?_ | refine wLd 20 ?_))
    all_goals (first | refine wSkip 19 ?_ | refine wSkipU 19 ?_ | (refine rStep (i := 19) ?_; ((try refine qWant ?_); (first | (refine tl_is (.func 43) ?_; refine qC rfl rfl (hLa _ v3 hR3') ?_; rintro v ρ' L' hle ⟨rfl, rfl, rfl⟩ <;> (try simp only [kM, kN, kO])) | (refine tl_is (.func 43) ?_; refine qC rfl rfl (hLs _ hR') ?_; rintro v ρ' L' hle ⟨rfl, rfl, rfl⟩ <;> (try simp only [kM, kN, kO])) | (refine qEf ?_; try intro _)) <;> ((try simp only [kM, kN, kO]); refine tl_nil ?_; refine rNext ?_))))
    all_goals (first | refine wSkip 21 ?_ | refine wSkipU 21 ?_ | (refine rStep (i := 21) ?_; ((try refine qWant ?_); (first | (refine tl_is (.func 43) ?_; refine qC rfl rfl (hLa _ v3 hR3') ?_; rintro v ρ' L' hle ⟨rfl, rfl, rfl⟩ <;> (try simp only [kM, kN, kO])) | (refine tl_is (.func 43) ?_; refine qC rfl rfl (hLs _ hR') ?_; rintro v ρ' L' hle ⟨rfl, rfl, rfl⟩ <;> (try simp only [kM, kN, kO])) | (refine qEf ?_; try intro _)) <;> ((try simp only [kM, kN, kO]); refine tl_nil ?_; refine rNext ?_))))
    all_goals (first | refine wSkip 22 ?_ | refine wSkipU 22 ?_ | refine wCm 22 ?_ | (refine tr_guard (t := 48) rfl (fun hb => ?_) (fun hb => ?_) <;> (try simp only [kk] at hb) <;> first | refine wSkip 22 ?_ | refine wSkipU 22 ?_ | refine wCm 22 ?_))
    all_goals refine rPk 23 ?_
    all_goals refine rMv 24 ?_
    all_goals (first | refine wSkip 25 ?_ | refine wSkipU 25 ?_ | refine wLd 25 ?_ | (refine tr_guard (t := 55) rfl (fun hb => ?_) (fun hb => ?_) <;> (try simp only [kk] at hb) <;> first | refine wSkip 25 ?_ | refine wSkipU 25 ?_ | refine wLd 25 ?_))
    all_goals (first | refine wSkip 27 ?_ | refine wSkipU 27 ?_ | refine wLd 27 ?_ | (refine tr_guard (t := 55) rfl (fun hb => ?_) (fun hb => ?_) <;> (try simp only [kk] at hb) <;> first | refine wSkip 27 ?_ | refine wSkipU 27 ?_ | refine wLd 27 ?_))
    all_goals (first | refine wSkip 26 ?_ | refine wSkipU 26 ?_ | (refine rStep (i := 26) ?_; ((try refine qWant ?_); (first | (refine tl_is (.func 44) ?_; refine qC rfl rfl (hRa _ v3 hR3') ?_; rintro v ρ' L' hle ⟨hl6, rfl, rfl⟩ <;> (try simp only [kM, kN, kO])) | (refine tl_is (.func 44) ?_; refine qC rfl rfl (hRs _ (hR'.mono hl6)) ?_; rintro v ρ' L' hle ⟨hl7, rfl, rfl⟩ <;> (try simp only [kM, kN, kO])) | (refine qEf ?_; try intro _)) <;> ((try simp only [kM, kN, kO]); refine tl_nil ?_; refine rNext ?_))))
    all_goals (first | refine wSkip 28 ?_ | refine wSkipU 28 ?_ | (refine rStep (i := 28) ?_; ((try refine qWant ?_); (first | (refine tl_is (.func 44) ?_; refine qC rfl rfl (hRa _ v3 hR3') ?_; rintro v ρ' L' hle ⟨hl6, rfl, rfl⟩ <;> (try simp only [kM, kN, kO])) | (refine tl_is (.func 44) ?_; refine qC rfl rfl (hRs _ (hR'.mono hl6)) ?_; rintro v ρ' L' hle ⟨hl7, rfl, rfl⟩ <;> (try simp only [kM, kN, kO])) | (refine qEf ?_; try intro _)) <;> ((try simp only [kM, kN, kO]); refine tl_nil ?_; refine rNext ?_))))
    all_goals refine rFull ?_
    all_goals (first | refine wSkip 29 ?_ | refine wSkipU 29 ?_ | refine wCm 29 ?_ | (refine tr_guard (t := 55) rfl (fun hb => ?_) (fun hb => ?_) <;> (try simp only [kk] at hb) <;> first | refine wSkip 29 ?_ | refine wSkipU 29 ?_ | refine wCm 29 ?_))
    all_goals refine rPk 30 ?_
    all_goals refine rDone ?_
    all_goals (repeat' (first | (refine iBu ?_; refine tl_y (y_buildN rfl) rfl rfl ?_) | (refine i_op ?_; first | (refine i_qq ?_; refine qQ ?_) | refine qEf ?_) | refine tl_nil ?_ | (refine i_tc ?_; refine qTc ?_) | (refine i_te ?_; refine qTe ?_) | intro _))
    have hz := Hp.le_trans hz0 (Hp.le_trans hl6 hl7)
    have hA9 := hR'.mono (Hp.le_trans hl6 hl7)
    have hB9 := hR3'.mono (Hp.le_trans hl6 hl7)
    have hC9 := hs1'.mono (Hp.le_trans hl6 hl7)
    have hD9 := hs4.mono (Hp.le_trans hl6 hl7)
    refine tc_loop_g [(3, _), (4, _), (5, _), (7, _), (63, _)] (fun (ζ : (Nat)) => [(64, .int .i64 ζ), (2, .bool false)]) (fun (ζ : (Nat)) => ρ') (fun (ζ : (Nat)) => []) (fun (ζ : (Nat)) => ζ ≤ s1.n) (fun (ζ : (Nat)) => s1.n - ζ) (0) (Nat.zero_le _) ev_le ev_le rfl tk ?_
    rintro j hI
    try simp only [List.cons_append, List.nil_append, List.append_assoc, List.append_eq] at hI ⊢
    try dsimp only at hI ⊢
    by_cases hlt : j < s1.n
    · obtain ⟨b, off, C, T, fr, f1, hb1, hfit, hc⟩ := hA9.at'.at'.get (show j < ro.txns.length by omega)
      obtain ⟨b2, off2, C2, T2, fr2, f2, hb2, hfit2, hc2⟩ := hB9.at'.at'.get (show j < ((ro.txns.map ckOf).map ofCk).length by simp; omega)
      obtain ⟨b3, off3, C3, T3, fr3, f3, hb3, hfit3, hc3⟩ := hC9.at'.get (show j < (ro.txns.map ckOf).length by simp; omega)
      obtain ⟨b4, off4, C4, T4, fr4, f4, hb4, hfit4, hc4⟩ := hD9.at'.get (show j < (ro.txns.map ckOf).length by simp; omega)
      simp only [List.getElem_map] at hc2 hc3 hc4
      generalize ro.txns[j]'(by omega) = x at *
      have hdx : decide (ckOf x = ckOf x) = true := decide_eq_true rfl
      have n5 := hB9.at'.at'.len
      simp only [List.length_map] at n5
      have hn0 : C[off + j * 7 + 0]? = some (.int .i64 x.num) := by
        have := congrArg (fun l => l[0]?) hc
        simp only [List.getElem?_take, List.getElem?_drop] at this
        simpa using this
      have hn4 : C[off + j * 7 + 4]? = some (.int .u64 x.undo) := by
        have := congrArg (fun l => l[4]?) hc
        simp only [List.getElem?_take, List.getElem?_drop] at this
        simpa using this
      rw [f3, f4]
      simp only [rosV]
      rw [f1, f2]
      repeat' (first | (refine iBu ?_; refine tl_y (y_buildN rfl) rfl rfl ?_) | (refine i_op ?_; first | (refine i_qq ?_; refine qQ ?_) | refine qEf ?_) | refine tl_nil ?_ | (refine i_tc ?_; refine qTc ?_) | (refine i_te ?_; refine qTe ?_) | intro _)
      refine tc_any (Stays _ _ _) stays_refl ?_
      all_goals refine rMv 0 ?_
      all_goals refine rFull ?_
      all_goals refine rMv 1 ?_
      all_goals refine rIa 2 ?_
      all_goals refine rLd 3 ?_
      all_goals refine rMv 4 ?_
      all_goals refine rMv 5 ?_
      all_goals refine rIa 6 ?_
      all_goals refine rLd 7 ?_
      all_goals refine rCm 8 ?_
      all_goals refine rMv 9 ?_
      all_goals (first | refine wSkip 10 ?_ | refine wSkipU 10 ?_ | refine wFa 10 ?_ | (refine tr_guard (t := 81) rfl (fun hb => ?_) (fun hb => ?_) <;> (try simp only [kk] at hb) <;> first | refine wSkip 10 ?_ | refine wSkipU 10 ?_ | refine wFa 10 ?_))
      all_goals (first | refine wSkip 11 ?_ | refine wSkipU 11 ?_ | refine wLd 11 ?_ | (refine tr_guard (t := 81) rfl (fun hb => ?_) (fun hb => ?_) <;> (try simp only [kk] at hb) <;> first | refine wSkip 11 ?_ | refine wSkipU 11 ?_ | refine wLd 11 ?_))
      all_goals (first | refine wSkip 12 ?_ | refine wSkipU 12 ?_ | refine wFa 12 ?_ | (refine tr_guard (t := 81) rfl (fun hb => ?_) (fun hb => ?_) <;> (try simp only [kk] at hb) <;> first | refine wSkip 12 ?_ | refine wSkipU 12 ?_ | refine wFa 12 ?_))
      all_goals (first | refine wSkip 13 ?_ | refine wSkipU 13 ?_ | refine wLd 13 ?_ | (refine tr_guard (t := 81) rfl (fun hb => ?_) (fun hb => ?_) <;> (try simp only [kk] at hb) <;> first | refine wSkip 13 ?_ | refine wSkipU 13 ?_ | refine wLd 13 ?_))
      all_goals (first | refine wSkip 14 ?_ | refine wSkipU 14 ?_ | refine wMv 14 ?_ | (refine tr_guard (t := 81) rfl (fun hb => ?_) (fun hb => ?_) <;> (try simp only [kk] at hb) <;> first | refine wSkip 14 ?_ | refine wSkipU 14 ?_ | refine wMv 14 ?_))
      all_goals (first | refine wSkip 15 ?_ | refine wSkipU 15 ?_ | refine wIa 15 ?_ | (refine tr_guard (t := 81) rfl (fun hb => ?_) (fun hb => ?_) <;> (try simp only [kk] at hb) <;> first | refine wSkip 15 ?_ | refine wSkipU 15 ?_ | refine wIa 15 ?_))
      all_goals (first | refine wSkip 16 ?_ | refine wSkipU 16 ?_ | refine wFa 16 ?_ | (refine tr_guard (t := 81) rfl (fun hb => ?_) (fun hb => ?_) <;> (try simp only [kk] at hb) <;> first | refine wSkip 16 ?_ | refine wSkipU 16 ?_ | refine wFa 16 ?_))
      all_goals (first | refine wSkip 17 ?_ | refine wSkipU 17 ?_ | refine wLd 17 ?_ | (refine tr_guard (t := 81) rfl (fun hb => ?_) (fun hb => ?_) <;> (try simp only [kk] at hb) <;> first | refine wSkip 17 ?_ | refine wSkipU 17 ?_ | refine wLd 17 ?_))
      all_goals (first | refine wSkip 18 ?_ | refine wSkipU 18 ?_ | refine wCm 18 ?_ | (refine tr_guard (t := 81) rfl (fun hb => ?_) (fun hb => ?_) <;> (try simp only [kk] at hb) <;> first | refine wSkip 18 ?_ | refine wSkipU 18 ?_ | refine wCm 18 ?_))
      all_goals refine rPk 19 ?_
      all_goals refine rMv 20 ?_
      all_goals (first | refine wSkip 21 ?_ | refine wSkipU 21 ?_ | refine wFa 21 ?_ | (refine tr_guard (t := 92) rfl (fun hb => ?_) (fun hb => ?_) <;> (try simp only [kk] at hb) <;> first | refine wSkip 21 ?_ | refine wSkipU 21 ?_ | refine wFa 21 ?_))
      all_goals (first | refine wSkip 22 ?_ | refine wSkipU 22 ?_ | refine wLd 22 ?_ | (refine tr_guard (t := 92) rfl (fun hb => ?_) (fun hb => ?_) <;> (try simp only [kk] at hb) <;> first | refine wSkip 22 ?_ | refine wSkipU 22 ?_ | refine wLd 22 ?_))
      all_goals (first | refine wSkip 23 ?_ | refine wSkipU 23 ?_ | refine wFa 23 ?_ | (refine tr_guard (t := 92) rfl (fun hb => ?_) (fun hb => ?_) <;> (try simp only [kk] at hb) <;> first | refine wSkip 23 ?_ | refine wSkipU 23 ?_ | refine wFa 23 ?_))
      all_goals (first | refine wSkip 24 ?_ | refine wSkipU 24 ?_ | refine wLd 24 ?_ | (refine tr_guard (t := 92) rfl (fun hb => ?_) (fun hb => ?_) <;> (try simp only [kk] at hb) <;> first | refine wSkip 24 ?_ | refine wSkipU 24 ?_ | refine wLd 24 ?_))
      all_goals (first | refine wSkip 25 ?_ | refine wSkipU 25 ?_ | refine wMv 25 ?_ | (refine tr_guard (t := 92) rfl (fun hb => ?_) (fun hb => ?_) <;> (try simp only [kk] at hb) <;> first | refine wSkip 25 ?_ | refine wSkipU 25 ?_ | refine wMv 25 ?_))
      all_goals (first | refine wSkip 26 ?_ | refine wSkipU 26 ?_ | refine wIa 26 ?_ | (refine tr_guard (t := 92) rfl (fun hb => ?_) (fun hb => ?_) <;> (try simp only [kk] at hb) <;> first | refine wSkip 26 ?_ | refine wSkipU 26 ?_ | refine wIa 26 ?_))
      all_goals (first | refine wSkip 27 ?_ | refine wSkipU 27 ?_ | refine wFa 27 ?_ | (refine tr_guard (t := 92) rfl (fun hb => ?_) (fun hb => ?_) <;> (try simp only [kk] at hb) <;> first | refine wSkip 27 ?_ | refine wSkipU 27 ?_ | refine wFa 27 ?_))
      all_goals (first | refine wSkip 28 ?_ | refine wSkipU 28 ?_ | refine wLd 28 ?_ | (refine tr_guard (t := 92) rfl (fun hb => ?_) (fun hb => ?_) <;> (try simp only [kk] at hb) <;> first | refine wSkip 28 ?_ | refine wSkipU 28 ?_ | refine wLd 28 ?_))
      all_goals (first | refine wSkip 29 ?_ | refine wSkipU 29 ?_ | refine wCm 29 ?_ | (refine tr_guard (t := 92) rfl (fun hb => ?_) (fun hb => ?_) <;> (try simp only [kk] at hb) <;> first | refine wSkip 29 ?_ | refine wSkipU 29 ?_ | refine wCm 29 ?_))
      all_goals refine rPk 30 ?_
      all_goals refine rMv 31 ?_
      all_goals (first | refine wSkip 32 ?_ | refine wSkipU 32 ?_ | refine wFa 32 ?_ | (refine tr_guard (t := 103) rfl (fun hb => ?_) (fun hb => ?_) <;> (try simp only [kk] at hb) <;> first | refine wSkip 32 ?_ | refine wSkipU 32 ?_ | refine wFa 32 ?_))
      all_goals (first | refine wSkip 33 ?_ | refine wSkipU 33 ?_ | refine wLd 33 ?_ | (refine tr_guard (t := 103) rfl (fun hb => ?_) (fun hb => ?_) <;> (try simp only [kk] at hb) <;> first | refine wSkip 33 ?_ | refine wSkipU 33 ?_ | refine wLd 33 ?_))
      all_goals (first | refine wSkip 34 ?_ | refine wSkipU 34 ?_ | refine wBi 34 ?_ | (refine tr_guard (t := 103) rfl (fun hb => ?_) (fun hb => ?_) <;> (try simp only [kk] at hb) <;> first | refine wSkip 34 ?_ | refine wSkipU 34 ?_ | refine wBi 34 ?_))
      all_goals (first | refine wSkip 35 ?_ | refine wSkipU 35 ?_ | refine wFa 35 ?_ | (refine tr_guard (t := 103) rfl (fun hb => ?_) (fun hb => ?_) <;> (try simp only [kk] at hb) <;> first | refine wSkip 35 ?_ | refine wSkipU 35 ?_ | refine wFa 35 ?_))
      all_goals (first | refine wSkip 36 ?_ | refine wSkipU 36 ?_ | refine wLd 36 ?_ | (refine tr_guard (t := 103) rfl (fun hb => ?_) (fun hb => ?_) <;> (try simp only [kk] at hb) <;> first | refine wSkip 36 ?_ | refine wSkipU 36 ?_ | refine wLd 36 ?_))
      all_goals (first | refine wSkip 37 ?_ | refine wSkipU 37 ?_ | refine wBi 37 ?_ | (refine tr_guard (t := 103) rfl (fun hb => ?_) (fun hb => ?_) <;> (try simp only [kk] at hb) <;> first | refine wSkip 37 ?_ | refine wSkipU 37 ?_ | refine wBi 37 ?_))
      all_goals (first | refine wSkip 38 ?_ | refine wSkipU 38 ?_ | refine wAd 38 ?_ | (refine tr_guard (t := 103) rfl (fun hb => ?_) (fun hb => ?_) <;> (try simp only [kk] at hb) <;> first | refine wSkip 38 ?_ | refine wSkipU 38 ?_ | refine wAd 38 ?_))
      all_goals (first | refine wSkip 39 ?_ | refine wSkipU 39 ?_ | refine wCm 39 ?_ | (refine tr_guard (t := 103) rfl (fun hb => ?_) (fun hb => ?_) <;> (try simp only [kk] at hb) <;> first | refine wSkip 39 ?_ | refine wSkipU 39 ?_ | refine wCm 39 ?_))
      all_goals refine rPk 40 ?_
      all_goals refine rDone ?_
      all_goals (repeat' (first | (refine iBu ?_; refine tl_y (y_buildN rfl) rfl rfl ?_) | (refine i_op ?_; first | (refine i_qq ?_; refine qQ ?_) | refine qEf ?_) | refine tl_nil ?_ | (refine i_tc ?_; refine qTc ?_) | (refine i_te ?_; refine qTe ?_) | intro _))
      all_goals rw [← f3, ← f4, ← f1, ← f2]
      all_goals refine te_round_g (j + 1) (hlt) ev_le ev_le rfl tk inferInstance (by first | omega | (dsimp only; omega))
    · repeat' (first | (refine iBu ?_; refine tl_y (y_buildN rfl) rfl rfl ?_) | (refine i_op ?_; first | (refine i_qq ?_; refine qQ ?_) | refine qEf ?_) | refine tl_nil ?_ | (refine i_tc ?_; refine qTc ?_) | (refine i_te ?_; refine qTe ?_) | intro _)
      exact qE (L' := []) (hle := hz) ⟨rfl, hz, rfl⟩
end Go.Proofs.E

