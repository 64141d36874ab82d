/- Laws of analysis. Part 27 of 41. -/
import Derived.Test.YtkbiahafeoillaaGreatA26
namespace Go.Proofs.E
open Go
set_option linter.unusedVariables false
set_option linter.unusedSimpArgs false
set_option linter.unusedSectionVars false
set_option maxRecDepth 4000
set_option maxHeartbeats 1000000
attribute [local irreducible] Yl TL TC TE Spec Xb R1 Hp.le EnvLe TS TR YS Zk
theorem take1_spec (ρ : Hp) (cb xb : Nat) (p : Xh) (vv : Value) (sp : List Value) (os : List OT) (hR : OwnR vv sp os p.txns) (hG : RosG p) (rv : RV) (r : Rc) (h : RcIn ρ rv r) :
  Spec Tryz.prog 51 [.pointer (some ⟨cb, 0, none⟩), .pointer (some ⟨xb, 0, none⟩)] ρ (Xd cb p.next vv noRV zeroRc none :: (ownRC vv sp os ++ [recC xb rv r]))
   (DoR (if ZU r then YI p r else 220) (Xn p r).next (Xn p r).txns [recC xb rv r] cb ρ) := by
 have hck := WA ρ rv r h
 unfold DoR
 refine Zd Tryz.func51 rfl rfl rfl fun u R => ?_
 simp only [Zo, List.cons_append, List.nil_append]
 cases hok : ZU r
 ·rw [hok] at hck
  simp only [Bool.false_eq_true, if_false] at hck ⊢
  repeat' (first | (refine Zc (.func 52) ?_; refine qC rfl rfl (hck) ?_; rintro v ρ' L' hle ⟨rfl, rfl, rfl⟩ <;> (try simp only [kM, kN, kO])) | refine zV ?_ | intro _)
  exact qE (L' := [] ++ [recC xb rv r]) ⟨Hp.le_refl _, rfl, .inl ⟨by decide, [], rfl⟩⟩
 ·rw [hok] at hck
  simp only [if_true] at hck ⊢
  have ht := takes_spec ρ cb p.next vv sp os p.txns hR noRV zeroRc none rv r h hok hG
  unfold DoR at ht
  have hp : (⟨p.next, p.txns⟩ : Xh) = p := rfl
  rw [hp] at ht
  repeat' (first | (refine Zc (.func 52) ?_; refine qC rfl rfl (hck) ?_; rintro v ρ' L' hle ⟨rfl, rfl, rfl⟩ <;> (try simp only [kM, kN, kO])) | (refine Zc (.func 53) ?_; refine qC rfl rfl (ht) ?_; rintro v ρ' L' hle ⟨hl1, rfl, ⟨he, G, rfl⟩ | ⟨he, vv', sp', os', rv', x', tp', hR', rfl⟩⟩ <;> (try simp only [kM, kN, kO])) | refine zV ?_ | intro _)
  ·simp only [List.append_nil, List.append_assoc]
   repeat' (first | refine zV ?_ | intro _)
   exact qE (L' := G ++ [recC xb rv r]) ⟨hl1, rfl, .inl ⟨he, G, rfl⟩⟩
  ·repeat' (first | refine zV ?_ | intro _)
   exact qE (L' := Xd cb (Xn p r).next vv' rv' x' tp' :: (ownRC vv' sp' os' ++ [recC xb rv r])) ⟨hl1, rfl, .inr ⟨he, vv', sp', os', rv', x', tp', hR', rfl⟩⟩
theorem take_spec (ρ : Hp) (v : SV) (ro : Ros) (h : RosIn ρ v ro) (rv : RV) (r : Rc) (hr : RcIn ρ rv r) : Spec Tryz.prog 18 [.agg ⟨XI v ro⟩, .agg ⟨Yx rv r⟩] ρ []
  (fun z ρ' L' => ρ.le ρ' ∧ ((takeE ro.p r ≠ 0 ∧ z = .tuple ⟨[.agg ⟨[.int .i64 0, .slice none 0 0]⟩, .int .i64 (takeE ro.p r)]⟩ ∧ L' = []) ∨
   (takeE ro.p r = 0 ∧ ∃ vv sp os, OwnR vv sp os (takeP ro.p r).txns ∧ z = .tuple ⟨[.agg ⟨[.int .i64 (takeP ro.p r).next, vv]⟩, .int .i64 0]⟩ ∧ L' = ownRC vv sp os))) := by
 refine Zd Tryz.func18 rfl rfl rfl fun u R => ?_
 simp only [Zo, List.cons_append, List.nil_append]
 unfold takeP takeE
 rw [rosOk_p]
 cases hok : WB ro
 ·have hw := fun cs X => rwith_bad ρ v ro h hok 51 cs X
  simp only [Bool.false_eq_true, if_false]
  repeat' (first | (refine Zc (.func 50) ?_; refine qC rfl rfl ((hw _ [])) ?_; rintro v ρ' L' hle ⟨rfl, rfl, rfl⟩ <;> (try simp only [kM, kN, kO])) | refine zV ?_ | intro _)
  exact qE (L' := []) ⟨Hp.le_refl _, .inl ⟨by decide, rfl, rfl⟩⟩
 ·have hG : RosG ro.p := rosG_iff.1 (by rw [rosOk_p]; exact hok)
  simp only [if_true]
  have hw := fun xb => rwith_spec ρ v ro h hok 51 [.pointer (some ⟨xb, 0, none⟩)] [recC xb rv r] [recC xb rv r] (if ZU r then YI ro.p r else 220) (Xn ro.p r).next (Xn ro.p r).txns (fun ρ1 hle cb vv sp os hR => take1_spec ρ1 cb xb ro.p vv sp os hR hG rv r (hr.mono hle))
  generalize (if ZU r = true then YI ro.p r else 220) = e at *
  repeat' (first | (refine Zc (.func 50) ?_; refine qC rfl rfl (hw _) ?_; rintro v ρ' L' hle ⟨hl1, ⟨he, rfl, rfl⟩ | ⟨he, vv, sp, os, hR, rfl, rfl⟩⟩ <;> (try simp only [kM, kN, kO])) | refine zV ?_ | intro _)
  ·repeat' (first | refine zV ?_ | intro _)
   exact qE (L' := []) ⟨hl1, .inl ⟨he, rfl, rfl⟩⟩
  ·subst he
   obtain ⟨va, vc, rfl, _⟩ := hR.own.slice
   repeat' (first | refine zV ?_ | intro _)
   exact qE (L' := ownRC _ sp os) ⟨hl1, .inr ⟨by trivial, _, sp, os, hR, rfl, rfl⟩⟩
theorem RosIn.z {ρ : Hp} : RosIn ρ Yw ⟨0, []⟩ := ⟨AS.nil, by simp⟩
theorem own_frozen {ρ : Hp} {next : Int} {vv : Value} {sp : List Value} {os : List OT} {p : Xh} (hR : OwnR vv sp os p.txns) (hG : RosG p) (hn : next = p.next) (hf : ∀ q ∈ (ownRC vv sp os).flatten, ρ q.1 = some q.2) :
  ∃ (v : SV) (ro' : Ros), Value.agg ⟨[.int .i64 next, vv]⟩ = .agg ⟨XI v ro'⟩ ∧ RosIn ρ v ro' ∧ ro'.p = p := by
 have h8 := hG.len
 obtain ⟨v, ro', e, h1, h2, h3⟩ := hR.frozen (ρ := ρ) (by omega) hG.bounds (fun q hq => hf q (by simp [hq])) (fun q hq => hf q (by simp [hq])) p.next
 refine ⟨v, ro', ?_, h1, h2⟩
 rw [e, hn, ← h3]
theorem takeP_ok {p : Xh} {r : Rc} (he : takeE p r = 0) : RosG (takeP p r) := by
 unfold takeP
 rw [if_pos he]
 unfold takeE at he
 cases h1 : rosOkP p
 ·rw [h1] at he; simp at he
 ·cases h2 : ZU r
  ·rw [h1, h2] at he; simp at he
  ·rw [h1, h2] at he
   exact takes_ok (rosG_iff.1 h1) h2 he
theorem takeF_spec (ρ : Hp) (v : SV) (ro : Ros) (h : RosIn ρ v ro) (rv : RV) (r : Rc) (hr : RcIn ρ rv r) : Spec Tryz.prog 18 [.agg ⟨XI v ro⟩, .agg ⟨Yx rv r⟩] ρ []
  (fun z ρ' L' => (ρ.le ρ' ∧ ∃ (v' : SV) (ro' : Ros), z = .tuple ⟨[.agg ⟨XI v' ro'⟩, .int .i64 (takeE ro.p r)]⟩ ∧ RosIn ρ' v' ro' ∧ ro'.p = takeP ro.p r) ∧ L' = []) := by
 refine Spec.freeze (Post2 := fun z ρ' => ρ.le ρ' ∧ ∃ (v' : SV) (ro' : Ros), z = .tuple ⟨[.agg ⟨XI v' ro'⟩, .int .i64 (takeE ro.p r)]⟩ ∧ RosIn ρ' v' ro' ∧ ro'.p = takeP ro.p r) (take_spec ρ v ro h rv r hr) ?_
 rintro z ρ' L' _ ⟨hl1, ⟨he, rfl, rfl⟩ | ⟨he, vv, sp, os, hR, rfl, rfl⟩⟩ ρ2 hl2 hf
 ·refine ⟨Hp.le_trans hl1 hl2, Yw, ⟨0, []⟩, rfl, RosIn.z, ?_⟩
  unfold takeP; rw [if_neg he]; rfl
 ·obtain ⟨v', ro', e1, e2, e3⟩ := own_frozen (next := (takeP ro.p r).next) hR (takeP_ok he) rfl hf
  exact ⟨Hp.le_trans hl1 hl2, v', ro', by rw [e1, he], e2, e3⟩
instance (priority := 1200) eqCkT {x y : CkT} : EqC Tryz.prog 8 169 (.agg ⟨XU x⟩) (.agg ⟨XU y⟩) (decide (x = y)) := by
 have h : EqC Tryz.prog 8 169 (.agg ⟨[.int .i64 x.txn, .int .u64 x.first, .int .u64 x.last, .int .u64 x.undo, .int .i64 x.state]⟩) (.agg ⟨[.int .i64 y.txn, .int .u64 y.first, .int .u64 y.last, .int .u64 y.undo, .int .i64 y.state]⟩) _ := inferInstance
 refine ⟨fun d w hd => ?_⟩
 rw [h.out d w hd]
 congr 1
 obtain ⟨t, a, b, c, s⟩ := x
 obtain ⟨t', a', b', c', s'⟩ := y
 simp only [CkT.mk.injEq, Bool.and_true, Bool.decide_and]
 have e : ∀ i i' : Nat, ((i : Int) == (i' : Int)) = decide (i = i') := fun i i' => by
  by_cases h : i = i'
  ·subst h; simp
  ·rw [decide_eq_false h]; simp only [beq_eq_false_iff_ne, ne_eq]; omega
 rw [e, e, e]
 have e2 : ∀ i i' : Int, (i == i') = decide (i = i') := fun i i' => by
  by_cases h : i = i' <;> simp [h]
 rw [e2, e2]
instance (priority := 1200) eqStp {x y : Stp} : EqC Tryz.prog 8 60 (.agg ⟨stpV x⟩) (.agg ⟨stpV y⟩) (decide (x = y)) := by
 have h : EqC Tryz.prog 8 60 (.agg ⟨[.int .i64 x.kind, .int .i64 x.row.t, .int .u16 x.row.id, .int .i64 x.row.val, strV x.row.note, .int .i64 x.by']⟩) (.agg ⟨[.int .i64 y.kind, .int .i64 y.row.t, .int .u16 y.row.id, .int .i64 y.row.val, strV y.row.note, .int .i64 y.by']⟩) _ := inferInstance
 refine ⟨fun d w hd => ?_⟩
 rw [h.out d w hd]
 congr 1
 obtain ⟨k, ⟨t, i, v, n⟩, b⟩ := x
 obtain ⟨k', ⟨t', i', v', n'⟩, b'⟩ := y
 simp only [Stp.mk.injEq, Row.mk.injEq, Bool.and_true, Bool.decide_and]
 have e : ∀ i i' : Nat, ((i : Int) == (i' : Int)) = decide (i = i') := fun i i' => by
  by_cases h : i = i'
  ·subst h; simp
  ·rw [decide_eq_false h]; simp only [beq_eq_false_iff_ne, ne_eq]; omega
 rw [e]
 have e2 : ∀ i i' : Int, (i == i') = decide (i = i') := fun i i' => by
  by_cases h : i = i' <;> simp [h]
 rw [e2, e2, e2, e2]
 simp only [Bool.and_assoc]
theorem eqCKP_spec (ρ : Hp) (s s' : SV) (l m : List Yq) (h : AS ρ 2 YG s l) (h' : AS ρ 2 YG s' m) :
  Spec Tryz.prog 67 [.slice s.a s.n s.c, .slice s'.a s'.n s'.c] ρ [] (fun v ρ' L' => v = .bool (decide (l = m)) ∧ ρ' = ρ ∧ L' = []) := by
 have hl := h.at'.len
 have hm := h'.at'.len
 have hn := h.big
 refine Zd Tryz.func67 rfl rfl rfl fun u R => ?_
 simp only [Zo, List.cons_append, List.nil_append]
 by_cases hne : s.n = s'.n
 ·repeat' (first | refine zV ?_ | intro _)
  refine Zq [(0, _), (1, _), (12, _)] (fun (ζ : (Nat)) => [(13, .int .i64 ζ), (4, .bool false)]) (fun (ζ : (Nat)) => ρ) (fun (ζ : (Nat)) => []) (fun (ζ : (Nat)) => ζ ≤ s.n ∧ l.take ζ = m.take ζ) (fun (ζ : (Nat)) => s.n - ζ) (0) (⟨Nat.zero_le _, rfl⟩) Ze Ze rfl tk ?_
  rintro k hI
  try simp only [List.cons_append, List.nil_append, List.append_assoc, List.append_eq] at hI ⊢
  try dsimp only at hI ⊢
  obtain ⟨hk, hpre⟩ := hI
  by_cases hlt : k < s.n
  ·obtain ⟨b, off, C, T, fr, f1, hb, hfit, hc⟩ := h.at'.get (show k < l.length by omega)
   obtain ⟨b2, off2, C2, T2, fr2, f2, hb2, hfit2, hc2⟩ := h'.at'.get (show k < m.length by omega)
   have ht1 := List.take_succ_eq_append_getElem (show k < l.length by omega)
   have ht2 := List.take_succ_eq_append_getElem (show k < m.length by omega)
   have hf : l = m → l[k]'(by omega) = m[k]'(by omega) := fun e => by subst e; rfl
   generalize l[k]'(by omega) = x at *
   generalize m[k]'(by omega) = y at *
   rw [f1, f2]
   by_cases he : x = y
   ·have hd : decide (x = y) = true := decide_eq_true he
    have hpre2 : l.take (k + 1) = m.take (k + 1) := by rw [ht1, ht2, hpre, he]
    repeat' (first | refine zV ?_ | intro _)
    refine Zu (Zk _ _ _) Zp ?_
    all_goals (refine Zx 0 ?_; refine Zz ?_; refine Zx 1 ?_; refine rIa 2 ?_; refine ZQ 3 ?_; refine Zx 4 ?_; refine Zx 5 ?_; refine rIa 6 ?_; refine ZQ 7 ?_; refine rCm 8 ?_; refine Zv ?_)
    all_goals (try simp only [hd])
    all_goals (repeat' (first | refine zV ?_ | intro _))
    all_goals rw [← f1, ← f2]
    all_goals refine Zg (k + 1) (⟨hlt, hpre2⟩) Ze Ze rfl tk inferInstance (by first | omega | (dsimp only; omega))
   ·have hd : decide (x = y) = false := decide_eq_false he
    rw [decide_eq_false (fun e => he (hf e))]
    repeat' (first | refine zV ?_ | intro _)
    refine Zu (Zk _ _ _) Zp ?_
    all_goals (refine Zx 0 ?_; refine Zz ?_; refine Zx 1 ?_; refine rIa 2 ?_; refine ZQ 3 ?_; refine Zx 4 ?_; refine Zx 5 ?_; refine rIa 6 ?_; refine ZQ 7 ?_; refine rCm 8 ?_; refine Zv ?_)
    all_goals (try simp only [hd])
    all_goals (repeat' (first | refine zV ?_ | intro _))
    all_goals exact qE (L' := []) ⟨rfl, rfl, rfl⟩
  ·have hk2 : k = s.n := by omega
   subst hk2
   rw [List.take_of_length_le (by omega), List.take_of_length_le (by omega)] at hpre
   rw [decide_eq_true hpre]
   repeat' (first | refine zV ?_ | intro _)
   exact qE ⟨rfl, rfl, rfl⟩
 ·rw [decide_eq_false (fun e : l = m => hne (by rw [← hl, ← hm, e]))]
  repeat' (first | refine zV ?_ | intro _)
  exact qE ⟨rfl, rfl, rfl⟩
theorem eqCKT_spec (ρ : Hp) (s s' : SV) (l m : List CkT) (h : AS ρ 5 XU s l) (h' : AS ρ 5 XU s' m) :
  Spec Tryz.prog 115 [.slice s.a s.n s.c, .slice s'.a s'.n s'.c] ρ [] (fun v ρ' L' => v = .bool (decide (l = m)) ∧ ρ' = ρ ∧ L' = []) := by
 have hl := h.at'.len
 have hm := h'.at'.len
 have hn := h.big
 refine Zd Tryz.func115 rfl rfl rfl fun u R => ?_
 simp only [Zo, List.cons_append, List.nil_append]
 by_cases hne : s.n = s'.n
 ·repeat' (first | refine zV ?_ | intro _)
  refine Zq [(0, _), (1, _), (12, _)] (fun (ζ : (Nat)) => [(13, .int .i64 ζ), (4, .bool false)]) (fun (ζ : (Nat)) => ρ) (fun (ζ : (Nat)) => []) (fun (ζ : (Nat)) => ζ ≤ s.n ∧ l.take ζ = m.take ζ) (fun (ζ : (Nat)) => s.n - ζ) (0) (⟨Nat.zero_le _, rfl⟩) Ze Ze rfl tk ?_
  rintro k hI
  try simp only [List.cons_append, List.nil_append, List.append_assoc, List.append_eq] at hI ⊢
  try dsimp only at hI ⊢
  obtain ⟨hk, hpre⟩ := hI
  by_cases hlt : k < s.n
  ·obtain ⟨b, off, C, T, fr, f1, hb, hfit, hc⟩ := h.at'.get (show k < l.length by omega)
   obtain ⟨b2, off2, C2, T2, fr2, f2, hb2, hfit2, hc2⟩ := h'.at'.get (show k < m.length by omega)
   have ht1 := List.take_succ_eq_append_getElem (show k < l.length by omega)
   have ht2 := List.take_succ_eq_append_getElem (show k < m.length by omega)
   have hf : l = m → l[k]'(by omega) = m[k]'(by omega) := fun e => by subst e; rfl
   generalize l[k]'(by omega) = x at *
   generalize m[k]'(by omega) = y at *
   rw [f1, f2]
   by_cases he : x = y
   ·have hd : decide (x = y) = true := decide_eq_true he
    have hpre2 : l.take (k + 1) = m.take (k + 1) := by rw [ht1, ht2, hpre, he]
    repeat' (first | refine zV ?_ | intro _)
    refine Zu (Zk _ _ _) Zp ?_
    all_goals (refine Zx 0 ?_; refine Zz ?_; refine Zx 1 ?_; refine rIa 2 ?_; refine ZQ 3 ?_; refine Zx 4 ?_; refine Zx 5 ?_; refine rIa 6 ?_; refine ZQ 7 ?_; refine rCm 8 ?_; refine Zv ?_)
    all_goals (try simp only [hd])
    all_goals (repeat' (first | refine zV ?_ | intro _))
    all_goals rw [← f1, ← f2]
    all_goals refine Zg (k + 1) (⟨hlt, hpre2⟩) Ze Ze rfl tk inferInstance (by first | omega | (dsimp only; omega))
   ·have hd : decide (x = y) = false := decide_eq_false he
    rw [decide_eq_false (fun e => he (hf e))]
    repeat' (first | refine zV ?_ | intro _)
    refine Zu (Zk _ _ _) Zp ?_
    all_goals (refine Zx 0 ?_; refine Zz ?_; refine Zx 1 ?_; refine rIa 2 ?_; refine ZQ 3 ?_; refine Zx 4 ?_; refine Zx 5 ?_; refine rIa 6 ?_; refine ZQ 7 ?_; refine rCm 8 ?_; refine Zv ?_)
    all_goals (try simp only [hd])
    all_goals (repeat' (first | refine zV ?_ | intro _))
    all_goals exact qE (L' := []) ⟨rfl, rfl, rfl⟩
  ·have hk2 : k = s.n := by omega
   subst hk2
   rw [List.take_of_length_le (by omega), List.take_of_length_le (by omega)] at hpre
   rw [decide_eq_true hpre]
   repeat' (first | refine zV ?_ | intro _)
   exact qE ⟨rfl, rfl, rfl⟩
 ·rw [decide_eq_false (fun e : l = m => hne (by rw [← hl, ← hm, e]))]
  repeat' (first | refine zV ?_ | intro _)
  exact qE ⟨rfl, rfl, rfl⟩
def zX : Tx := ⟨0, 0, 0, 0, 0, [], [], ⟨none, 0, 0⟩, ⟨none, 0, 0⟩⟩
theorem zX_in (ρ : Hp) : Tx.In ρ zX := ⟨AIn.nil, SIn.nil, Nat.zero_le _, Nat.zero_le _, Nat.le_refl _, Nat.le_refl _⟩
def FindR (o : Option TxP) (x : Tx) (b : Bool) : Prop := (∃ t, o = some t ∧ b = true ∧ x.p = t) ∨ (o = none ∧ b = false ∧ x = zX)
theorem rfind_spec (ρ : Hp) (v : SV) (ro : Ros) (h : RosIn ρ v ro) (num : Int) : Spec Tryz.prog 19 [.agg ⟨XI v ro⟩, .int .i64 num] ρ []
  (fun z ρ' L' => ρ' = ρ ∧ ∃ x b, z = .tuple ⟨[.agg ⟨Yk x⟩, .bool b]⟩ ∧ Tx.In ρ' x ∧ FindR (if WB ro then Xg ro.p num else none) x b ∧ L' = []) := by
 have hck := Ws ρ v ro h
 have hat := atT_spec ρ ro.next v ro.txns h.at' num
 have hl := h.at'.at'.len
 have hA := h.at'.at'
 refine Zd Tryz.func19 rfl rfl rfl fun u R => ?_
 simp only [Zo, List.cons_append, List.nil_append]
 repeat' (first | (refine Zc (.func 54) ?_; refine qC rfl rfl (hat) ?_; rintro v ρ' L' hle ⟨rfl, i, there, rfl, hAt, rfl⟩ <;> (try simp only [kM, kN, kO])) | refine zV ?_ | intro _)
 cases hok : WB ro
 ·rw [hok] at hck
  simp only [Bool.false_eq_true, if_false] at hck ⊢
  cases there
  all_goals (repeat' (first | (refine Zc (.func 55) ?_; refine qC rfl rfl (hck) ?_; rintro v ρ' L' hle ⟨rfl, rfl, rfl⟩ <;> (try simp only [kM, kN, kO])) | refine zV ?_ | intro _))
  all_goals exact qE (L' := []) ⟨rfl, zX, false, rfl, zX_in _, .inr ⟨rfl, rfl, rfl⟩, rfl⟩
 ·have hG : RosG ro.p := rosG_iff.1 (by rw [rosOk_p]; exact hok)
  rw [hok] at hck
  simp only [if_true] at hck ⊢
  have hfa := find_at (next := ro.next) (txns := ro.p.txns) (os := ro.txns.map (fun x => ⟨x, [], []⟩)) (num := num) (i := i) (there := there) (by rw [List.map_map]; have : (OT.x ∘ fun x => (⟨x, [], []⟩ : OT)) = id := rfl; rw [this, List.map_id]; exact hAt) (by rw [List.map_map]; rfl) hG
  cases there
  ·have hf : Xg ro.p num = none := hfa.2 rfl
   rw [hf]
   repeat' (first | refine zV ?_ | intro _)
   exact qE (L' := []) ⟨rfl, zX, false, rfl, zX_in _, .inr ⟨rfl, rfl, rfl⟩, rfl⟩
  ·obtain ⟨hi, hnum, hf⟩ := hfa.1 rfl
   rw [List.length_map] at hi
   have hf : Xg ro.p num = some (ro.txns[i]).p := by
    have : Xg ro.p num = _ := hf
    rw [this]; simp
   rw [hf]
   obtain ⟨b, off, C, T, fr, e1, hb, hfit, hc⟩ := hA.get hi
   have hin := h.tx _ (List.getElem_mem hi)
   generalize ro.txns[i] = x at *
   have hrv : XI v ro = [.int .i64 ro.next, .slice (some ⟨b, off, none⟩) v.n v.c] := by rw [← e1]
   rw [hrv] at hck ⊢
   repeat' (first | (refine Zc (.func 55) ?_; refine qC rfl rfl (hck) ?_; rintro v ρ' L' hle ⟨rfl, rfl, rfl⟩ <;> (try simp only [kM, kN, kO])) | refine zV ?_ | intro _)
   exact qE (L' := []) ⟨rfl, x, true, rfl, hin, .inl ⟨_, rfl, rfl, rfl⟩, rfl⟩
theorem rnew_spec (ρ : Hp) : Spec Tryz.prog 10 [] ρ [] (fun z ρ' L' => z = .agg ⟨XI Yw ⟨1, []⟩⟩ ∧ ρ' = ρ ∧ L' = []) := by
 refine Zd Tryz.func10 rfl rfl rfl fun u R => ?_
 simp only [Zo, List.cons_append, List.nil_append]
 repeat' (first | refine zV ?_ | intro _)
 exact qE (L' := []) ⟨rfl, rfl, rfl⟩
theorem rnew_in (ρ : Hp) : RosIn ρ Yw ⟨1, []⟩ := ⟨AS.nil, by simp⟩
abbrev anC (ab : Nat) (d : AnD) : List (Nat × Obj) := [(ab, .cells ⟨anV d⟩ 67 (0, 0))]
theorem spans_spec (ρ : Hp) (d : AnD) : Spec Tryz.prog 106 [.agg ⟨anV d⟩] ρ [] (fun z ρ' L' => z = .bool (spansB d.p) ∧ ρ' = ρ ∧ L' = []) := by
 obtain ⟨base, master, fin, next, rv, ro, dv, dirty⟩ := d
 unfold spansB
 dsimp only
 refine Zd Tryz.func106 rfl rfl rfl fun u R => ?_
 simp only [Zo, List.cons_append, List.nil_append]
 by_cases hm : master = 0
 all_goals (repeat' (first | refine zV ?_ | (refine YL ?_; refine ZB rfl rfl (fun hb => ?_) (fun hb => ?_) <;> (try simp only [decide_eq_true_eq, decide_eq_false_iff_not, Bool.not_eq_true, Bool.not_eq_false, beq_iff_eq, bne_iff_ne, ne_eq, decide_eq_decide, Bool.not_eq_eq_eq_not, Bool.not_true, Bool.not_false, beq_eq_false_iff_ne, bne_eq_false_iff_eq, Bool.and_eq_true, Bool.or_eq_true, Bool.and_eq_false_imp, Bool.or_eq_false_iff, bq2, bqt, bqf] at hb)) | (refine ZS ?_; refine ZM rfl (fun hb => ?_) (fun hb => ?_) <;> (try simp only [decide_eq_true_eq, decide_eq_false_iff_not, Bool.not_eq_true, Bool.not_eq_false, beq_iff_eq, bne_iff_ne, ne_eq, decide_eq_decide, Bool.not_eq_eq_eq_not, Bool.not_true, Bool.not_false, beq_eq_false_iff_ne, bne_eq_false_iff_eq, Bool.and_eq_true, Bool.or_eq_true, Bool.and_eq_false_imp, Bool.or_eq_false_iff, bq2, bqt, bqf] at hb)) | intro _))
 all_goals (refine qF (L' := []) ?_; exact ⟨Ym (by (try simp [*]); first | done | omega | (intros; omega) | (constructor <;> intros <;> (try simp_all) <;> omega)), rfl, rfl⟩)
theorem late_spec (ρ : Hp) (ab : Nat) (d : AnD) (x : Tx) (h : Tx.In ρ x) : Spec Tryz.prog 108 [.agg ⟨Yk x⟩, .pointer (some ⟨ab, 0, none⟩)] ρ [anC ab d] (fun z ρ' L' => z = .bool (lateB d.next x.p) ∧ ρ' = ρ ∧ L' = [anC ab d]) := by
 have hm := h.m.len
 have hmb := h.mb
 unfold lateB
 dsimp only
 rw [hm]
 refine Zd Tryz.func108 rfl rfl rfl fun u R => ?_
 simp only [Zo, List.cons_append, List.nil_append]
 repeat' (first | refine zV ?_ | (refine YL ?_; refine ZB rfl rfl (fun hb => ?_) (fun hb => ?_) <;> (try simp only [decide_eq_true_eq, decide_eq_false_iff_not, Bool.not_eq_true, Bool.not_eq_false, beq_iff_eq, bne_iff_ne, ne_eq, decide_eq_decide, Bool.not_eq_eq_eq_not, Bool.not_true, Bool.not_false, beq_eq_false_iff_ne, bne_eq_false_iff_eq, Bool.and_eq_true, Bool.or_eq_true, Bool.and_eq_false_imp, Bool.or_eq_false_iff, bq2, bqt, bqf] at hb)) | (refine ZS ?_; refine ZM rfl (fun hb => ?_) (fun hb => ?_) <;> (try simp only [decide_eq_true_eq, decide_eq_false_iff_not, Bool.not_eq_true, Bool.not_eq_false, beq_iff_eq, bne_iff_ne, ne_eq, decide_eq_decide, Bool.not_eq_eq_eq_not, Bool.not_true, Bool.not_false, beq_eq_false_iff_ne, bne_eq_false_iff_eq, Bool.and_eq_true, Bool.or_eq_true, Bool.and_eq_false_imp, Bool.or_eq_false_iff, bq2, bqt, bqf] at hb)) | intro _)
 all_goals (refine qF (L' := [anC ab d]) ?_; exact ⟨Ym (by (try simp [*]); first | done | omega | (intros; omega) | (constructor <;> intros <;> (try simp_all) <;> omega)), rfl, rfl⟩)
theorem behind_spec (ρ : Hp) (ab : Nat) (d : AnD) (x : Yq) : Spec Tryz.prog 109 [.agg ⟨YG x⟩, .pointer (some ⟨ab, 0, none⟩)] ρ [anC ab d] (fun z ρ' L' => z = .bool (behindB d.next x) ∧ ρ' = ρ ∧ L' = [anC ab d]) := by
 unfold behindB
 refine Zd Tryz.func109 rfl rfl rfl fun u R => ?_
 simp only [Zo, List.cons_append, List.nil_append]
 repeat' (first | refine zV ?_ | intro _)
 refine qF (L' := [anC ab d]) ?_
 exact ⟨Ym (by simp), rfl, rfl⟩
theorem idx_any {α : Type} {p : α → Bool} {l : List α} : decide (0 ≤ YV p l) = l.any p := by
 unfold YV
 cases hf : l.findIdx? p with
 | none =>
  rw [List.findIdx?_eq_none_iff] at hf
  have : l.any p = false := List.any_eq_false.2 (fun x hx => by rw [hf x hx]; simp)
  rw [this]; rfl
 | some i =>
  obtain ⟨h1, h2, _⟩ := List.findIdx?_eq_some_iff_getElem.1 hf
  have : l.any p = true := List.any_eq_true.2 ⟨_, List.getElem_mem h1, h2⟩
  rw [this]; simp
theorem idxTxF_spec (ρ : Hp) (a : Option Addr) (n c : Nat) (l : List Tx) (h : AIn ρ 7 Yk a n l) (hn : n ≤ 1000000) (F : Nat) [hF : Ya Tryz.prog F] (cs : List Value) (X : SH) (pp : Tx → Bool)
  (hp : ∀ x ∈ l, Spec Tryz.prog F (.agg ⟨Yk x⟩ :: cs) ρ X (fun z ρ' L' => z = .bool (pp x) ∧ ρ' = ρ ∧ L' = X)) :
  Spec Tryz.prog 155 [.slice a n c, .func (.func F) ⟨[]⟩ ⟨cs⟩] ρ X (fun z ρ' L' => z = .int .i64 (YV pp l) ∧ ρ' = ρ ∧ L' = X) := by
 have hl := h.len
 refine Zd Tryz.func155 rfl rfl rfl fun u R => ?_
 simp only [Zo, List.cons_append, List.nil_append]
 repeat' (first | refine zV ?_ | intro _)
 refine Zq [(0, _), (1, _), (7, _)] (fun (ζ : (Nat)) => [(8, .int .i64 ζ), (4, .int .i64 0)]) (fun (ζ : (Nat)) => ρ) (fun (ζ : (Nat)) => X) (fun (ζ : (Nat)) => ζ ≤ n ∧ ∀ x ∈ l.take ζ, pp x = false) (fun (ζ : (Nat)) => n - ζ) (0) (⟨Nat.zero_le _, by simp⟩) Ze Ze rfl tk ?_
 rintro k hI
 try simp only [List.cons_append, List.nil_append, List.append_assoc, List.append_eq] at hI ⊢
 try dsimp only at hI ⊢
 obtain ⟨hk, hok⟩ := hI
 by_cases hlt : k < n
 ·obtain ⟨b, off, C, T, fr, rfl, hb, hfit, hc⟩ := h.get (show k < l.length by omega)
  have hf := fun (e : pp l[k] = true) => Wh (p := pp) (show k < l.length by omega) e hok
  have ht := fun (e : pp l[k] = false) => WD (p := fun x => pp x = false) (show k < l.length by omega) e hok
  have hp0 := hp _ (List.getElem_mem (show k < l.length by omega))
  cases hx : pp l[k]
  ·have hok2 := ht hx
   rw [hx] at hp0
   generalize l[k] = x at *
   repeat' (first | (refine Zc (.tmp 11) ?_; refine qC rfl rfl (hp0) ?_; rintro v ρ' L' hle ⟨rfl, rfl, rfl⟩ <;> (try simp only [kM, kN, kO])) | refine zV ?_ | intro _)
   refine Zg (k + 1) (⟨hlt, hok2⟩) Ze Ze rfl tk inferInstance (by first | omega | (dsimp only; omega))
  ·have e := hf hx
   rw [hx] at hp0
   have e2 : YV pp l = (k : Int) := by unfold YV; rw [e]
   rw [e2]
   generalize l[k] = x at *
   repeat' (first | (refine Zc (.tmp 11) ?_; refine qC rfl rfl (hp0) ?_; rintro v ρ' L' hle ⟨rfl, rfl, rfl⟩ <;> (try simp only [kM, kN, kO])) | refine zV ?_ | intro _)
   exact qE (L' := _) ⟨rfl, rfl, rfl⟩
 ·have hk2 : k = l.length := by omega
  rw [hk2, List.take_length] at hok
  have e2 : YV pp l = -1 := by unfold YV; rw [WF hok]
  rw [e2]
  repeat' (first | refine zV ?_ | intro _)
  exact qE (L' := _) ⟨rfl, rfl, rfl⟩
theorem hasTxF_spec (ρ : Hp) (a : Option Addr) (n c : Nat) (l : List Tx) (h : AIn ρ 7 Yk a n l) (hn : n ≤ 1000000) (F : Nat) [hF : Ya Tryz.prog F] (cs : List Value) (X : SH) (pp : Tx → Bool)
  (hp : ∀ x ∈ l, Spec Tryz.prog F (.agg ⟨Yk x⟩ :: cs) ρ X (fun z ρ' L' => z = .bool (pp x) ∧ ρ' = ρ ∧ L' = X)) :
  Spec Tryz.prog 110 [.slice a n c, .func (.func F) ⟨[]⟩ ⟨cs⟩] ρ X (fun z ρ' L' => z = .bool (l.any pp) ∧ ρ' = ρ ∧ L' = X) := by
 have hi := idxTxF_spec ρ a n c l h hn F cs X pp hp
 rw [← idx_any]
 generalize YV pp l = q at *
 refine Zd Tryz.func110 rfl rfl rfl fun u R => ?_
 simp only [Zo, List.cons_append, List.nil_append]
 repeat' (first | (refine Zc (.func 155) ?_; refine qC rfl rfl (hi) ?_; rintro v ρ' L' hle ⟨rfl, rfl, rfl⟩ <;> (try simp only [kM, kN, kO])) | refine zV ?_ | intro _)
 refine qF (L' := L') ?_
 exact ⟨Ym (by simp), rfl, rfl⟩
theorem idxCkF_spec (ρ : Hp) (a : Option Addr) (n c : Nat) (l : List Yq) (h : AIn ρ 2 YG a n l) (hn : n ≤ 1000000) (F : Nat) [hF : Ya Tryz.prog F] (cs : List Value) (X : SH) (pp : Yq → Bool)
  (hp : ∀ x ∈ l, Spec Tryz.prog F (.agg ⟨YG x⟩ :: cs) ρ X (fun z ρ' L' => z = .bool (pp x) ∧ ρ' = ρ ∧ L' = X)) :
  Spec Tryz.prog 156 [.slice a n c, .func (.func F) ⟨[]⟩ ⟨cs⟩] ρ X (fun z ρ' L' => z = .int .i64 (YV pp l) ∧ ρ' = ρ ∧ L' = X) := by
 have hl := h.len
 refine Zd Tryz.func156 rfl rfl rfl fun u R => ?_
 simp only [Zo, List.cons_append, List.nil_append]
 repeat' (first | refine zV ?_ | intro _)
 refine Zq [(0, _), (1, _), (7, _)] (fun (ζ : (Nat)) => [(8, .int .i64 ζ), (4, .int .i64 0)]) (fun (ζ : (Nat)) => ρ) (fun (ζ : (Nat)) => X) (fun (ζ : (Nat)) => ζ ≤ n ∧ ∀ x ∈ l.take ζ, pp x = false) (fun (ζ : (Nat)) => n - ζ) (0) (⟨Nat.zero_le _, by simp⟩) Ze Ze rfl tk ?_
 rintro k hI
 try simp only [List.cons_append, List.nil_append, List.append_assoc, List.append_eq] at hI ⊢
 try dsimp only at hI ⊢
 obtain ⟨hk, hok⟩ := hI
 by_cases hlt : k < n
 ·obtain ⟨b, off, C, T, fr, rfl, hb, hfit, hc⟩ := h.get (show k < l.length by omega)
  have hf := fun (e : pp l[k] = true) => Wh (p := pp) (show k < l.length by omega) e hok
  have ht := fun (e : pp l[k] = false) => WD (p := fun x => pp x = false) (show k < l.length by omega) e hok
  have hp0 := hp _ (List.getElem_mem (show k < l.length by omega))
  cases hx : pp l[k]
  ·have hok2 := ht hx
   rw [hx] at hp0
   generalize l[k] = x at *
   repeat' (first | (refine Zc (.tmp 11) ?_; refine qC rfl rfl (hp0) ?_; rintro v ρ' L' hle ⟨rfl, rfl, rfl⟩ <;> (try simp only [kM, kN, kO])) | refine zV ?_ | intro _)
   refine Zg (k + 1) (⟨hlt, hok2⟩) Ze Ze rfl tk inferInstance (by first | omega | (dsimp only; omega))
  ·have e := hf hx
   rw [hx] at hp0
   have e2 : YV pp l = (k : Int) := by unfold YV; rw [e]
   rw [e2]
   generalize l[k] = x at *
   repeat' (first | (refine Zc (.tmp 11) ?_; refine qC rfl rfl (hp0) ?_; rintro v ρ' L' hle ⟨rfl, rfl, rfl⟩ <;> (try simp only [kM, kN, kO])) | refine zV ?_ | intro _)
   exact qE (L' := _) ⟨rfl, rfl, rfl⟩
 ·have hk2 : k = l.length := by omega
  rw [hk2, List.take_length] at hok
  have e2 : YV pp l = -1 := by unfold YV; rw [WF hok]
  rw [e2]
  repeat' (first | refine zV ?_ | intro _)
  exact qE (L' := _) ⟨rfl, rfl, rfl⟩
theorem hasCkF_spec (ρ : Hp) (a : Option Addr) (n c : Nat) (l : List Yq) (h : AIn ρ 2 YG a n l) (hn : n ≤ 1000000) (F : Nat) [hF : Ya Tryz.prog F] (cs : List Value) (X : SH) (pp : Yq → Bool)
  (hp : ∀ x ∈ l, Spec Tryz.prog F (.agg ⟨YG x⟩ :: cs) ρ X (fun z ρ' L' => z = .bool (pp x) ∧ ρ' = ρ ∧ L' = X)) :
  Spec Tryz.prog 111 [.slice a n c, .func (.func F) ⟨[]⟩ ⟨cs⟩] ρ X (fun z ρ' L' => z = .bool (l.any pp) ∧ ρ' = ρ ∧ L' = X) := by
 have hi := idxCkF_spec ρ a n c l h hn F cs X pp hp
 rw [← idx_any]
 generalize YV pp l = q at *
 refine Zd Tryz.func111 rfl rfl rfl fun u R => ?_
 simp only [Zo, List.cons_append, List.nil_append]
 repeat' (first | (refine Zc (.func 156) ?_; refine qC rfl rfl (hi) ?_; rintro v ρ' L' hle ⟨rfl, rfl, rfl⟩ <;> (try simp only [kM, kN, kO])) | refine zV ?_ | intro _)
 refine qF (L' := L') ?_
 exact ⟨Ym (by simp), rfl, rfl⟩
theorem any_tx (n : Nat) (l : List Tx) : (l.map Tx.p).any (lateB n) = l.any (fun x => lateB n x.p) := by
 rw [List.any_map]; rfl
theorem Xq (ρ : Hp) (d : AnD) (h : AnIn ρ d) : Spec Tryz.prog 58 [.agg ⟨anV d⟩] ρ [] (fun z ρ' L' => z = .bool (Yc d.p) ∧ ρ' = ρ ∧ L' = []) := by
 have hsp := spans_spec ρ d
 have hrc := Ws ρ d.rv d.ro h.r
 have hcc := ckcheck_spec ρ d.dv d.dirty h.d
 have hl1 := fun ab => hasTxF_spec ρ d.rv.a d.rv.n d.rv.c d.ro.txns h.r.at'.at' h.r.at'.big 108 [.pointer (some ⟨ab, 0, none⟩)] [anC ab d] (fun x => lateB d.next x.p) (fun x hx => late_spec ρ ab d x (h.r.tx x hx))
 have hl2 := fun ab => hasCkF_spec ρ d.dv.a d.dv.n d.dv.c d.dirty h.d.at' h.d.big 109 [.pointer (some ⟨ab, 0, none⟩)] [anC ab d] (behindB d.next) (fun x hx => behind_spec ρ ab d x)
 have hdl := h.d.at'.len
 have hdb := h.d.big
 unfold Yc
 dsimp only
 rw [any_tx, rosOk_p, hdl]
 generalize spansB d.p = q0 at *
 generalize WB d.ro = q1 at *
 generalize Xs d.dirty = q2 at *
 generalize (d.ro.txns.any fun x => lateB d.next x.p) = q3 at *
 generalize d.dirty.any (behindB d.next) = q4 at *
 obtain ⟨base, master, fin, next, rv, ro, dv, dirty⟩ := d
 dsimp only at *
 refine Zd Tryz.func58 rfl rfl rfl fun u R => ?_
 simp only [Zo, List.cons_append, List.nil_append]
 cases q0
 case' false =>
  repeat' (first | (refine Zc (.func 106) ?_; refine qC rfl rfl (hsp) ?_; rintro v ρ' L' hle ⟨rfl, rfl, rfl⟩ <;> (try simp only [kM, kN, kO])) | refine zV ?_ | intro _)
  exact qE (L' := []) ⟨rfl, rfl, rfl⟩
 cases q1
 case' false =>
  repeat' (first | (refine Zc (.func 106) ?_; refine qC rfl rfl (hsp) ?_; rintro v ρ' L' hle ⟨rfl, rfl, rfl⟩ <;> (try simp only [kM, kN, kO])) | (refine Zc (.func 55) ?_; refine qC rfl rfl (hrc) ?_; rintro v ρ' L' hle ⟨rfl, rfl, rfl⟩ <;> (try simp only [kM, kN, kO])) | refine zV ?_ | intro _)
  exact qE (L' := []) ⟨rfl, rfl, rfl⟩
 cases q2
 case' false =>
  repeat' (first | (refine Zc (.func 106) ?_; refine qC rfl rfl (hsp) ?_; rintro v ρ' L' hle ⟨rfl, rfl, rfl⟩ <;> (try simp only [kM, kN, kO])) | (refine Zc (.func 55) ?_; refine qC rfl rfl (hrc) ?_; rintro v ρ' L' hle ⟨rfl, rfl, rfl⟩ <;> (try simp only [kM, kN, kO])) | (refine Zc (.func 107) ?_; refine qC rfl rfl (hcc) ?_; rintro v ρ' L' hle ⟨rfl, rfl, rfl⟩ <;> (try simp only [kM, kN, kO])) | refine zV ?_ | intro _)
  exact qE (L' := []) ⟨rfl, rfl, rfl⟩
 simp only [if_true] at hrc hcc
 simp only [Bool.true_and]
 repeat' (first | (refine Zc (.func 106) ?_; refine qC rfl rfl (hsp) ?_; rintro v ρ' L' hle ⟨rfl, rfl, rfl⟩ <;> (try simp only [kM, kN, kO])) | (refine Zc (.func 55) ?_; refine qC rfl rfl (hrc) ?_; rintro v ρ' L' hle ⟨rfl, rfl, rfl⟩ <;> (try simp only [kM, kN, kO])) | (refine Zc (.func 107) ?_; refine qC rfl rfl (hcc) ?_; rintro v ρ' L' hle ⟨rfl, rfl, rfl⟩ <;> (try simp only [kM, kN, kO])) | refine zV ?_ | intro _)
 cases q3
 case' true =>
  repeat' (first | (refine Zc (.func 110) ?_; refine qC rfl rfl (hl1 _) ?_; rintro v ρ' L' hle ⟨rfl, rfl, rfl⟩ <;> (try simp only [kM, kN, kO])) | refine zV ?_ | intro _)
  exact qE (L' := []) ⟨rfl, rfl, rfl⟩
 cases q4
 case' true =>
  repeat' (first | (refine Zc (.func 110) ?_; refine qC rfl rfl (hl1 _) ?_; rintro v ρ' L' hle ⟨rfl, rfl, rfl⟩ <;> (try simp only [kM, kN, kO])) | (refine Zc (.func 111) ?_; refine qC rfl rfl (hl2 _) ?_; rintro v ρ' L' hle ⟨rfl, rfl, rfl⟩ <;> (try simp only [kM, kN, kO])) | refine zV ?_ | intro _)
  exact qE (L' := []) ⟨rfl, rfl, rfl⟩
 by_cases c1 : master < next
 ·rw [decide_eq_true (.inl c1)]
  repeat' (first | (refine Zc (.func 110) ?_; refine qC rfl rfl (hl1 _) ?_; rintro v ρ' L' hle ⟨rfl, rfl, rfl⟩ <;> (try simp only [kM, kN, kO])) | (refine Zc (.func 111) ?_; refine qC rfl rfl (hl2 _) ?_; rintro v ρ' L' hle ⟨rfl, rfl, rfl⟩ <;> (try simp only [kM, kN, kO])) | refine zV ?_ | intro _)
  exact qE (L' := []) ⟨rfl, rfl, rfl⟩
 ·by_cases c2 : dv.n = 0
  ·rw [decide_eq_true (.inr c2)]
   repeat' (first | (refine Zc (.func 110) ?_; refine qC rfl rfl (hl1 _) ?_; rintro v ρ' L' hle ⟨rfl, rfl, rfl⟩ <;> (try simp only [kM, kN, kO])) | (refine Zc (.func 111) ?_; refine qC rfl rfl (hl2 _) ?_; rintro v ρ' L' hle ⟨rfl, rfl, rfl⟩ <;> (try simp only [kM, kN, kO])) | refine zV ?_ | intro _)
   exact qE (L' := []) ⟨rfl, rfl, rfl⟩
  ·rw [decide_eq_false (by rintro (g | g); exact c1 g; exact c2 g)]
   repeat' (first | (refine Zc (.func 110) ?_; refine qC rfl rfl (hl1 _) ?_; rintro v ρ' L' hle ⟨rfl, rfl, rfl⟩ <;> (try simp only [kM, kN, kO])) | (refine Zc (.func 111) ?_; refine qC rfl rfl (hl2 _) ?_; rintro v ρ' L' hle ⟨rfl, rfl, rfl⟩ <;> (try simp only [kM, kN, kO])) | refine zV ?_ | intro _)
   exact qE (L' := []) ⟨rfl, rfl, rfl⟩
theorem Wc (ρ : Hp) (d : AnD) (h : AnIn ρ d) : Spec Tryz.prog 27 [.agg ⟨anV d⟩] ρ [] (fun z ρ' L' => z = .int .i64 (if Yc d.p then 0 else 330) ∧ ρ' = ρ ∧ L' = []) := by
 have hr := Xq ρ d h
 generalize Yc d.p = q at *
 refine Zd Tryz.func27 rfl rfl rfl fun u R => ?_
 simp only [Zo, List.cons_append, List.nil_append]
 cases q
 all_goals (repeat' (first | (refine Zc (.func 58) ?_; refine qC rfl rfl (hr) ?_; rintro v ρ' L' hle ⟨rfl, rfl, rfl⟩ <;> (try simp only [kM, kN, kO])) | refine zV ?_ | intro _))
 all_goals exact qE (L' := []) ⟨rfl, rfl, rfl⟩
def newD (base master fin : Nat) : AnD := ⟨base, master, fin, base, Yw, ⟨1, []⟩, Yw, []⟩
theorem newD_in {ρ : Hp} {base master fin : Nat} : AnIn ρ (newD base master fin) := ⟨rnew_in ρ, AS.nil⟩
theorem begin_spec (ρ : Hp) (base master fin : Nat) : Spec Tryz.prog 22 [.int .u64 base, .int .u64 master, .int .u64 fin] ρ []
  (fun z ρ' L' => ρ' = ρ ∧ L' = [] ∧ z = .tuple ⟨[.agg ⟨anV (if Yc (newA base master fin) then newD base master fin else Wn)⟩, .int .i64 (if Yc (newA base master fin) then 0 else 2)]⟩) := by
 have hr := Xq ρ (newD base master fin) newD_in
 have e : (newD base master fin).p = newA base master fin := rfl
 rw [e] at hr
 generalize Yc (newA base master fin) = q at *
 refine Zd Tryz.func22 rfl rfl rfl fun u R => ?_
 simp only [Zo, List.cons_append, List.nil_append]
 cases q
 all_goals (repeat' (first | (refine Zc (.func 10) ?_; refine qC rfl rfl (rnew_spec _) ?_; rintro v ρ' L' hle ⟨rfl, rfl, rfl⟩ <;> (try simp only [kM, kN, kO])) | (refine Zc (.func 58) ?_; refine qC rfl rfl (hr) ?_; rintro v ρ' L' hle ⟨rfl, rfl, rfl⟩ <;> (try simp only [kM, kN, kO])) | refine zV ?_ | intro _))
 all_goals exact qE (L' := []) ⟨rfl, rfl, rfl⟩
end Go.Proofs.E
