/- The law RosterDoes. Part 18b of 20. -/
import Derived.Test.YtjajdpfdhokkhaaGreatY18
namespace Go.Proofs.E
open Go
set_option linter.unusedVariables false
set_option linter.unusedSimpArgs false
set_option linter.unusedSectionVars false
set_option maxRecDepth 4000
set_option maxHeartbeats 1000000
attribute [local irreducible] Yl TL TC TE Spec Wq R1 Hp.le EnvLe TS TR YS Zs
theorem takenY_spec (ρ : Hp) (x : Tx) (hin : Tx.In ρ x) (hb1 : x.sv.n ≤ 1099511627776) (hb2 : x.mv.n ≤ 1099511627776) (rv : RV) (r : Rc) (hr : RcIn ρ rv r) (hok : YF r = true) (k8 : r.kind ≠ 8) (k2 : 2 ≤ r.kind) (k7 : r.kind ≤ 7) (hm : mayT x.p r = true) : Spec Tryz.prog 204 [.agg ⟨Ym x⟩, .agg ⟨Xh rv r⟩] ρ []
  (fun z ρ' L' => ρ.le ρ' ∧ ∃ y : Tx, z = .tuple ⟨[.agg ⟨Ym y⟩, .bool false, .int .i64 0]⟩ ∧ Tx.In ρ' y ∧ y.p = XG x.p r ∧ L' = []) := by
 rw [mayT_iff] at hm
 simp only [Tx.p] at hm
 have hx1 : Tx.In ρ { x with last := r.lsn } := ⟨hin.s, hin.m, hin.sb, hin.mb, hin.sc, hin.mc⟩
 have hpush := pushed18_spec ρ { x with last := r.lsn } hx1 (by dsimp only; omega) (by dsimp only; omega) rv r hr hok
 have hback := back18_spec ρ { x with last := r.lsn } hx1 r.next (by dsimp only; omega) (by dsimp only; omega)
 refine Zg Tryz.func204 rfl rfl rfl fun u R => ?_
 simp only [Zx, List.cons_append, List.nil_append]
 by_cases k : r.kind = 6
 ·have hn : XG x.p r = { x.p with last := r.lsn, state := 3, marks := [], stack := [] } := by
   unfold XG
   rw [if_neg (by omega), if_neg (by omega), if_neg (by omega), if_pos k]
  by_cases c1 : x.first ≤ r.next <;> by_cases c2 : r.next ≤ x.undo
  all_goals
   repeat' (first | (refine ZE ?_; refine Zo (Zd rfl) rfl rfl ?_) | (refine Zj ?_; first | (refine Zf ?_; refine qQ ?_) | refine Zn ?_) | refine Zb ?_ | (refine Zi ?_; refine Zv ?_) | (refine Zh ?_; refine Zu ?_) | intro _)
   exact qE (L' := []) ⟨Hp.le_refl _, ⟨x.num, 3, x.first, r.lsn, x.undo, [], [], ⟨none, 0, 0⟩, ⟨none, 0, 0⟩⟩, rfl, ⟨AIn.nil, SIn.nil, Nat.zero_le _, Nat.zero_le _, Nat.le_refl _, Nat.le_refl _⟩, by rw [hn], rfl⟩
 by_cases k7 : r.kind = 7
 ·have hn : XG x.p r = { x.p with last := r.lsn, state := 2, marks := [] } := by
   unfold XG
   rw [if_neg (by omega), if_neg (by omega), if_neg (by omega), if_neg k]
  by_cases c1 : x.first ≤ r.next <;> by_cases c2 : r.next ≤ x.undo
  all_goals
   repeat' (first | (refine ZE ?_; refine Zo (Zd rfl) rfl rfl ?_) | (refine Zj ?_; first | (refine Zf ?_; refine qQ ?_) | refine Zn ?_) | refine Zb ?_ | (refine Zi ?_; refine Zv ?_) | (refine Zh ?_; refine Zu ?_) | intro _)
   exact qE (L' := []) ⟨Hp.le_refl _, ⟨x.num, 2, x.first, r.lsn, x.undo, x.stack, [], x.sv, ⟨none, 0, 0⟩⟩, rfl, ⟨hin.s, SIn.nil, hin.sb, Nat.zero_le _, hin.sc, Nat.le_refl _⟩, by rw [hn], rfl⟩
 by_cases k2 : r.kind = 2
 ·have hn : XG x.p r = pushT { x.p with last := r.lsn } r := by unfold XG; rw [if_pos k2]
  by_cases c1 : x.first ≤ r.next <;> by_cases c2 : r.next ≤ x.undo
  all_goals
   repeat' (first | (refine Ze (.func 259) ?_; refine qC rfl rfl (hpush) ?_; rintro v ρ' L' hle ⟨hz1, y, rfl, hy, hyp, rfl⟩ <;> (try simp only [kM, kN, kO])) | (refine ZE ?_; refine Zo (Zd rfl) rfl rfl ?_) | (refine Zj ?_; first | (refine Zf ?_; refine qQ ?_) | refine Zn ?_) | refine Zb ?_ | (refine Zi ?_; refine Zv ?_) | (refine Zh ?_; refine Zu ?_) | intro _)
   exact qE (L' := []) ⟨hz1, y, rfl, hy, by rw [hn, hyp], rfl⟩
 by_cases k4 : r.kind = 4
 ·have hn : XG x.p r = pushT (backT { x.p with last := r.lsn } r.next) r := by
   unfold XG
   rw [if_neg k2, if_neg (by omega), if_pos k4]
  have hpush2 : ∀ ρ2 y, ρ.le ρ2 → Tx.In ρ2 y → y.p = backT { x.p with last := r.lsn } r.next → Spec Tryz.prog 259 [.agg ⟨Ym y⟩, .agg ⟨Xh rv r⟩] ρ2 [] (fun z ρ' L' => ρ2.le ρ' ∧ ∃ y2 : Tx, z = .agg ⟨Ym y2⟩ ∧ Tx.In ρ' y2 ∧ y2.p = XG x.p r ∧ L' = []) := fun ρ2 y h1 h2 h3 => by
   have e1 : y.stack = x.stack.filter (fun s => decide (s.lsn ≤ r.next)) := congrArg TxP.stack h3
   have e2 : y.marks = x.marks.filter (fun m => decide (m ≤ r.next)) := congrArg TxP.marks h3
   have l1 := List.length_filter_le (fun s : Lf => decide (s.lsn ≤ r.next)) x.stack
   have l2 := List.length_filter_le (fun m : Nat => decide (m ≤ r.next)) x.marks
   have l3 := h2.s.len
   have l4 := h2.m.len
   have l5 := hin.s.len
   have l6 := hin.m.len
   rw [← e1] at l1
   rw [← e2] at l2
   refine (pushed18_spec ρ2 y h2 (by omega) (by omega) rv r (hr.mono h1) hok).mono ?_
   rintro z ρ' L' _ ⟨q1, y2, q2, q3, q4, q5⟩
   exact ⟨q1, y2, q2, q3, by rw [hn, q4, h3], q5⟩
  repeat' (first | (refine ZE ?_; refine Zo (Zd rfl) rfl rfl ?_) | (refine Zj ?_; first | (refine Zf ?_; refine qQ ?_) | refine Zn ?_) | refine Zb ?_ | (refine Zi ?_; refine Zv ?_) | (refine Zh ?_; refine Zu ?_) | intro _)
  refine Wc 6 (Zs _ _ ([[(_, .cells ⟨Xh rv r⟩ 30 (0, 0))], [(_, .cells ⟨Ym { x with last := r.lsn }⟩ 72 (0, 0))]])) (by decide +kernel) (Zz (hT := tk) (Hp.le_refl _)) ?_
  simp only [List.take_succ_cons, List.take_zero]
  all_goals (refine ZX 0 ?_; refine ZS 1 ?_; refine ZX 2 ?_; refine ZX 4 ?_)
  all_goals (refine Zp (i := 3) ?_; ((try refine Zk ?_); (first | (refine Ze (.func 260) ?_; refine qC rfl rfl (hback) ?_; rintro v ρ' L' hle ⟨hz1, y, rfl, hy, hyp, rfl⟩ <;> (try simp only [kM, kN, kO])) | (refine Zn ?_; try intro _)) <;> ((try simp only [kM, kN, kO]); refine Zb ?_; refine Zl ?_)))
  all_goals (refine Zp (i := 5) ?_; ((try refine Zk ?_); (first | (refine Ze (.func 259) ?_; refine qC rfl rfl ((hpush2 _ y hz1 hy hyp)) ?_; rintro v ρ' L' hle ⟨hz2, y2, rfl, hy2, hyp2, rfl⟩ <;> (try simp only [kM, kN, kO])) | (refine Zn ?_; try intro _)) <;> ((try simp only [kM, kN, kO]); refine Zb ?_; refine Zl ?_)))
  all_goals refine ZI ?_
  all_goals refine Wb (fuel := 1) (m := [true, true, true, true, true, true, false]) (Zs _ _ ([])) rfl rfl (Zz (hT := tk) (Hp.le_refl _)) ?_
  all_goals (refine Zp (i := 6) ?_; ((try refine Zk ?_); (first | (refine Zn ?_; try intro _)) <;> ((try simp only [kM, kN, kO]); refine Zb ?_; refine Zl ?_)))
  all_goals refine ZI ?_
  all_goals (repeat' (first | (refine ZE ?_; refine Zo (Zd rfl) rfl rfl ?_) | (refine Zj ?_; first | (refine Zf ?_; refine qQ ?_) | refine Zn ?_) | refine Zb ?_ | (refine Zi ?_; refine Zv ?_) | (refine Zh ?_; refine Zu ?_) | intro _))
  all_goals exact qE (L' := []) (hle := Hp.le_trans hz1 hz2) ⟨Hp.le_trans hz1 hz2, y2, rfl, hy2, hyp2, rfl⟩
 have hn : XG x.p r = backT { x.p with last := r.lsn } r.next := by unfold XG; rw [if_neg k2, if_pos (by omega)]
 by_cases k3 : r.kind = 3
 ·repeat' (first | (refine Ze (.func 260) ?_; refine qC rfl rfl (hback) ?_; rintro v ρ' L' hle ⟨hz1, y, rfl, hy, hyp, rfl⟩ <;> (try simp only [kM, kN, kO])) | (refine ZE ?_; refine Zo (Zd rfl) rfl rfl ?_) | (refine Zj ?_; first | (refine Zf ?_; refine qQ ?_) | refine Zn ?_) | refine Zb ?_ | (refine Zi ?_; refine Zv ?_) | (refine Zh ?_; refine Zu ?_) | intro _)
  exact qE (L' := []) ⟨hz1, y, rfl, hy, by rw [hn, hyp], rfl⟩
 ·have k5 : r.kind = 5 := by omega
  by_cases c3 : x.state = 1
  all_goals
   repeat' (first | (refine Ze (.func 260) ?_; refine qC rfl rfl (hback) ?_; rintro v ρ' L' hle ⟨hz1, y, rfl, hy, hyp, rfl⟩ <;> (try simp only [kM, kN, kO])) | (refine ZE ?_; refine Zo (Zd rfl) rfl rfl ?_) | (refine Zj ?_; first | (refine Zf ?_; refine qQ ?_) | refine Zn ?_) | refine Zb ?_ | (refine Zi ?_; refine Zv ?_) | (refine Zh ?_; refine Zu ?_) | intro _)
   exact qE (L' := []) ⟨hz1, y, rfl, hy, by rw [hn, hyp], rfl⟩
theorem live18r_spec (ρ : Hp) (v : SV) (ro : Ros) (h : RosIn ρ v ro) (num : Int) : Spec Tryz.prog 136 [.agg ⟨Yh v ro⟩, .int .i64 num] ρ []
  (fun z ρ' L' => ρ' = ρ ∧ ∃ x, z = .tuple ⟨[.agg ⟨Ym x⟩, .int .i64 (liveE (Yf ro.p num))]⟩ ∧ Tx.In ρ' x ∧ (∀ t, Yf ro.p num = some t → x.p = t) ∧ L' = []) := by
 have hf := find18_spec ρ v ro h num
 refine Zg Tryz.func136 rfl rfl rfl fun u R => ?_
 simp only [Zx, List.cons_append, List.nil_append]
 cases hft : Yf ro.p num with
 | none =>
  have hf2 : Spec Tryz.prog 53 [.agg ⟨Yh v ro⟩, .int .i64 num] ρ [] (fun z ρ' L' => z = .tuple ⟨[.agg ⟨Ym zX⟩, .bool false]⟩ ∧ ρ' = ρ ∧ L' = []) := by
   refine hf.mono ?_
   rintro z ρ' L' _ ⟨q1, x, b, q2, q3, ⟨t', q4, _⟩ | ⟨_, q5, q6⟩, q7⟩
   ·rw [hft] at q4; cases q4
   ·exact ⟨by rw [q2, q5, q6], q1, q7⟩
  repeat' (first | (refine Ze (.func 53) ?_; refine qC rfl rfl (hf2) ?_; rintro v ρ' L' hle ⟨rfl, rfl, rfl⟩ <;> (try simp only [kM, kN, kO])) | (refine ZE ?_; refine Zo (Zd rfl) rfl rfl ?_) | (refine Zj ?_; first | (refine Zf ?_; refine qQ ?_) | refine Zn ?_) | refine Zb ?_ | (refine Zi ?_; refine Zv ?_) | (refine Zh ?_; refine Zu ?_) | intro _)
  exact qE (L' := []) ⟨rfl, zX, rfl, zX_in _, fun _ e => (by cases e), rfl⟩
 | some t =>
  have hf2 : Spec Tryz.prog 53 [.agg ⟨Yh v ro⟩, .int .i64 num] ρ [] (fun z ρ' L' => ρ' = ρ ∧ ∃ x, z = .tuple ⟨[.agg ⟨Ym x⟩, .bool true]⟩ ∧ Tx.In ρ' x ∧ x.p = t ∧ x.state = t.state ∧ L' = []) := by
   refine hf.mono ?_
   rintro z ρ' L' _ ⟨q1, x, b, q2, q3, ⟨t', q4, q5, q6⟩ | ⟨q4, _⟩, q7⟩
   ·rw [hft] at q4
    cases q4
    exact ⟨q1, x, by rw [q2, q5], q3, q6, by rw [← q6], q7⟩
   ·rw [hft] at q4; cases q4
  unfold liveE
  by_cases hs : t.state = 1
  ·simp only [if_pos hs]
   repeat' (first | (refine Ze (.func 53) ?_; refine qC rfl rfl (hf2) ?_; rintro v ρ' L' hle ⟨rfl, x, rfl, hx, hxp, hst, rfl⟩ <;> (try simp only [kM, kN, kO])) | (refine ZE ?_; refine Zo (Zd rfl) rfl rfl ?_) | (refine Zj ?_; first | (refine Zf ?_; refine qQ ?_) | refine Zn ?_) | refine Zb ?_ | (refine Zi ?_; refine Zv ?_) | (refine Zh ?_; refine Zu ?_) | intro _)
   exact qE (L' := []) ⟨rfl, x, rfl, hx, fun t' e => (by cases e; exact hxp), rfl⟩
  ·simp only [if_neg hs]
   repeat' (first | (refine Ze (.func 53) ?_; refine qC rfl rfl (hf2) ?_; rintro v ρ' L' hle ⟨rfl, x, rfl, hx, hxp, hst, rfl⟩ <;> (try simp only [kM, kN, kO])) | (refine ZE ?_; refine Zo (Zd rfl) rfl rfl ?_) | (refine Zj ?_; first | (refine Zf ?_; refine qQ ?_) | refine Zn ?_) | refine Zb ?_ | (refine Zi ?_; refine Zv ?_) | (refine Zh ?_; refine Zu ?_) | intro _)
   exact qE (L' := []) ⟨rfl, x, rfl, hx, fun t' e => (by cases e; exact hxp), rfl⟩
theorem mark18_spec (ρ : Hp) (v : SV) (ro : Ros) (h : RosIn ρ v ro) (hB : RosB ro.p) (num : Int) : Spec Tryz.prog 118 [.agg ⟨Yh v ro⟩, .int .i64 num] ρ []
  (fun z ρ' L' => ρ.le ρ' ∧ ∃ (v' : SV) (ro' : Ros), z = .tuple ⟨[.agg ⟨Yh v' ro'⟩, .int .i64 (if WJ XR (Yf ro.p num) = 0 then marksN ro.p num else 0), .int .i64 (WJ XR (Yf ro.p num))]⟩ ∧ RosIn ρ' v' ro' ∧ ro'.p = (if WJ XR (Yf ro.p num) = 0 then askT markG ro.p (Yf ro.p num) else ⟨0, []⟩) ∧ L' = []) := by
 have hlv := live18r_spec ρ v ro h num
 unfold marksN
 refine Zg Tryz.func118 rfl rfl rfl fun u R => ?_
 simp only [Zx, List.cons_append, List.nil_append]
 cases hft : Yf ro.p num with
 | none =>
  have e : liveE (none : Option TxP) = 4 := rfl
  have e2 : WJ XR (none : Option TxP) = 4 := rfl
  simp only [hft, e] at hlv
  simp only [e2]
  repeat' (first | (refine Ze (.func 136) ?_; refine qC rfl rfl (hlv) ?_; rintro v ρ' L' hle ⟨rfl, x, rfl, hx, hxp, rfl⟩ <;> (try simp only [kM, kN, kO])) | (refine ZE ?_; refine Zo (Zd rfl) rfl rfl ?_) | (refine Zj ?_; first | (refine Zf ?_; refine qQ ?_) | refine Zn ?_) | refine Zb ?_ | (refine Zi ?_; refine Zv ?_) | (refine Zh ?_; refine Zu ?_) | intro _)
  exact qE (L' := []) ⟨Hp.le_refl _, Xn, ⟨0, []⟩, rfl, RosIn.z, rfl, rfl⟩
 | some t =>
  by_cases hs : t.state = 1
  case' neg =>
   have e : liveE (some t) = 2 := if_neg hs
   have e2 : WJ XR (some t) = 2 := if_neg hs
   simp only [hft, e] at hlv
   simp only [e2]
   repeat' (first | (refine Ze (.func 136) ?_; refine qC rfl rfl (hlv) ?_; rintro v ρ' L' hle ⟨rfl, x, rfl, hx, hxp, rfl⟩ <;> (try simp only [kM, kN, kO])) | (refine ZE ?_; refine Zo (Zd rfl) rfl rfl ?_) | (refine Zj ?_; first | (refine Zf ?_; refine qQ ?_) | refine Zn ?_) | refine Zb ?_ | (refine Zi ?_; refine Zv ?_) | (refine Zh ?_; refine Zu ?_) | intro _)
   exact qE (L' := []) ⟨Hp.le_refl _, Xn, ⟨0, []⟩, rfl, RosIn.z, rfl, rfl⟩
  have e : liveE (some t) = 0 := if_pos hs
  have e2 : WJ XR (some t) = XR t := if_pos hs
  simp only [hft, e] at hlv
  simp only [e2]
  have hlv2 : Spec Tryz.prog 136 [.agg ⟨Yh v ro⟩, .int .i64 num] ρ [] (fun z ρ' L' => ρ' = ρ ∧ ∃ x, z = .tuple ⟨[.agg ⟨Ym x⟩, .int .i64 0]⟩ ∧ Tx.In ρ' x ∧ x.p = t ∧ x.mv.n = t.marks.length ∧ L' = []) := by
   refine hlv.mono ?_
   rintro z ρ' L' _ ⟨q1, x, q2, q3, q4, q5⟩
   have q6 := q4 t rfl
   refine ⟨q1, x, q2, q3, q6, ?_, q5⟩
   rw [← q3.m.len, ← q6]
  by_cases h8 : 8 ≤ t.marks.length
  ·have e3 : XR t = 6 := if_pos h8
   simp only [e3]
   repeat' (first | (refine Ze (.func 136) ?_; refine qC rfl rfl (hlv2) ?_; rintro v ρ' L' hle ⟨rfl, x, rfl, hx, hxp, hxm, rfl⟩ <;> (try simp only [kM, kN, kO])) | (refine ZE ?_; refine Zo (Zd rfl) rfl rfl ?_) | (refine Zj ?_; first | (refine Zf ?_; refine qQ ?_) | refine Zn ?_) | refine Zb ?_ | (refine Zi ?_; refine Zv ?_) | (refine Zh ?_; refine Zu ?_) | intro _)
   exact qE (L' := []) ⟨Hp.le_refl _, Xn, ⟨0, []⟩, rfl, RosIn.z, rfl, rfl⟩
  ·have e3 : XR t = 0 := if_neg h8
   simp only [e3, if_true]
   repeat' (first | (refine Ze (.func 136) ?_; refine qC rfl rfl (hlv2) ?_; rintro v ρ' L' hle ⟨rfl, x, rfl, hx, hxp, hxm, rfl⟩ <;> (try simp only [kM, kN, kO])) | (refine ZE ?_; refine Zo (Zd rfl) rfl rfl ?_) | (refine Zj ?_; first | (refine Zf ?_; refine qQ ?_) | refine Zn ?_) | refine Zb ?_ | (refine Zi ?_; refine Zv ?_) | (refine Zh ?_; refine Zu ?_) | intro _)
   rename_i b7
   have hM := hx.m
   have hMl := hM.len
   refine Wc 8 (Zs _ _ ([[(b7, .cells ⟨Ym x⟩ 72 (0, 0))]])) (by decide +kernel) (Zz (hT := tk) (Hp.le_refl _)) ?_
   simp only [List.take_succ_cons, List.take_zero]
   all_goals (refine ZS 1 ?_; refine ZX 2 ?_; refine ZS 4 ?_; refine ZX 5 ?_)
   all_goals (refine Ye (i := 0) (j := 6) ?_ ?_ <;> ((try refine Zk ?_); (first | (refine ZL (css := [[ZU x.undo]]) (sz := 1) rfl rfl rfl rfl (by simp) (by simp) rfl (fun bs => ?_); simp only [List.flatten_cons, List.flatten_nil, List.append_nil]) | (refine Zn ?_; try intro _)) <;> ((try simp only [kM, kN, kO]); refine Zb ?_; refine Zl ?_)))
   all_goals (first | (refine Ye (i := 3) (j := 6) ?_ ?_ <;> ((try refine Zk ?_); (first | (refine ZV (n := 0) (xs := []) (sp := []) (ys := x.marks.map ZU) (m := x.mv.n) (sz := 1) rfl rfl (OwnS.zero _ 1) (hR := by repeat (first | exact ZH | apply ZG)) hM.srcV (by rw [List.length_map, hMl]; omega) (by simp [Value.oneCell']) (by decide) rfl (by omega) (by omega) rfl (fun v1 sp1 o1 => ?_); simp only [Nat.zero_add, List.nil_append] at o1 ⊢; obtain ⟨a1, c1, rfl, q1⟩ := o1.slice) | (refine ZL (css := [[ZU x.undo]]) (sz := 1) rfl rfl rfl rfl (by simp) (by simp) rfl (fun bs => ?_); simp only [List.flatten_cons, List.flatten_nil, List.append_nil]) | (refine ZV (ys := [ZU x.undo]) (m := 1) rfl rfl o1 (hR := by repeat (first | exact ZH | apply ZG)) SrcV.lit rfl rfl (by decide) rfl (by omega) (by omega) rfl (fun v3 sp3 o3 => ?_); obtain ⟨va3, vc3, rfl, _⟩ := o3.slice) | (refine Zn ?_; try intro _)) <;> ((try simp only [kM, kN, kO]); refine Zb ?_; refine Zl ?_))) | (refine Zp (i := 0) ?_; ((try refine Zk ?_); (first | (refine ZL (css := [[ZU x.undo]]) (sz := 1) rfl rfl rfl rfl (by simp) (by simp) rfl (fun bs => ?_); simp only [List.flatten_cons, List.flatten_nil, List.append_nil]) | (refine Zn ?_; try intro _)) <;> ((try simp only [kM, kN, kO]); refine Zb ?_; refine Zl ?_))))
   all_goals (first | (refine Zp (i := 6) ?_; ((try refine Zk ?_); (first | (refine ZL (css := [[ZU x.undo]]) (sz := 1) rfl rfl rfl rfl (by simp) (by simp) rfl (fun bs => ?_); simp only [List.flatten_cons, List.flatten_nil, List.append_nil]) | (refine Zn ?_; try intro _)) <;> ((try simp only [kM, kN, kO]); refine Zb ?_; refine Zl ?_))) | (refine Zp (i := 3) ?_; ((try refine Zk ?_); (first | (refine ZV (n := 0) (xs := []) (sp := []) (ys := x.marks.map ZU) (m := x.mv.n) (sz := 1) rfl rfl (OwnS.zero _ 1) (hR := by repeat (first | exact ZH | apply ZG)) hM.srcV (by rw [List.length_map, hMl]; omega) (by simp [Value.oneCell']) (by decide) rfl (by omega) (by omega) rfl (fun v1 sp1 o1 => ?_); simp only [Nat.zero_add, List.nil_append] at o1 ⊢; obtain ⟨a1, c1, rfl, q1⟩ := o1.slice) | (refine ZL (css := [[ZU x.undo]]) (sz := 1) rfl rfl rfl rfl (by simp) (by simp) rfl (fun bs => ?_); simp only [List.flatten_cons, List.flatten_nil, List.append_nil]) | (refine ZV (ys := [ZU x.undo]) (m := 1) rfl rfl o1 (hR := by repeat (first | exact ZH | apply ZG)) SrcV.lit rfl rfl (by decide) rfl (by omega) (by omega) rfl (fun v3 sp3 o3 => ?_); obtain ⟨va3, vc3, rfl, _⟩ := o3.slice) | (refine Zn ?_; try intro _)) <;> ((try simp only [kM, kN, kO]); refine Zb ?_; refine Zl ?_))))
   all_goals (refine Zp (i := 7) ?_; ((try refine Zk ?_); (first | (refine ZV (n := 0) (xs := []) (sp := []) (ys := x.marks.map ZU) (m := x.mv.n) (sz := 1) rfl rfl (OwnS.zero _ 1) (hR := by repeat (first | exact ZH | apply ZG)) hM.srcV (by rw [List.length_map, hMl]; omega) (by simp [Value.oneCell']) (by decide) rfl (by omega) (by omega) rfl (fun v1 sp1 o1 => ?_); simp only [Nat.zero_add, List.nil_append] at o1 ⊢; obtain ⟨a1, c1, rfl, q1⟩ := o1.slice) | (refine ZL (css := [[ZU x.undo]]) (sz := 1) rfl rfl rfl rfl (by simp) (by simp) rfl (fun bs => ?_); simp only [List.flatten_cons, List.flatten_nil, List.append_nil]) | (refine ZV (ys := [ZU x.undo]) (m := 1) rfl rfl o1 (hR := by repeat (first | exact ZH | apply ZG)) SrcV.lit rfl rfl (by decide) rfl (by omega) (by omega) rfl (fun v3 sp3 o3 => ?_); obtain ⟨va3, vc3, rfl, _⟩ := o3.slice) | (refine Zn ?_; try intro _)) <;> ((try simp only [kM, kN, kO]); refine Zb ?_; refine Zl ?_)))
   all_goals refine ZI ?_
   all_goals refine Wb (fuel := 2) (m := [true, true, true, true, true, true, true, true, false, false]) (Zs _ _ ([])) rfl rfl (Zz (hT := tk) (Hp.le_refl _)) ?_
   all_goals refine ZS 8 ?_
   all_goals (refine Zp (i := 9) ?_; ((try refine Zk ?_); (first | (refine Zn ?_; try intro _)) <;> ((try simp only [kM, kN, kO]); refine Zb ?_; refine Zl ?_)))
   all_goals refine ZI ?_
   all_goals (
    refine Yk (ZK (.slice va3 (x.mv.n + 1) vc3) (x.marks.map ZU ++ [ZU x.undo]) sp3 24) (h := by repeat (first | exact ZH | apply ZG)) (fun ρ4 hle4 hf4 => ?_)
    have hm : x.marks.map ZU ++ [ZU x.undo] = (x.marks ++ [x.undo]).map ZU := by simp
    have hln : x.mv.n + 1 = (x.marks ++ [x.undo]).length := by simp [hMl]
    rw [hm, hln] at o3
    rw [hm, hln] at hf4
    obtain ⟨sa, sc, f1, hsc, hA2⟩ := o3.sIn hf4
    obtain ⟨f3, _, f4⟩ := Value.slice.inj f1
    subst f3; subst f4)
   all_goals (
    have hy : Tx.In ρ4 { x with marks := x.marks ++ [x.undo], mv := ⟨va3, x.mv.n + 1, vc3⟩ } := ⟨hx.s.mono hle4, by rw [hln]; exact hA2, hx.sb, by dsimp only; omega, hx.sc, by rw [hln]; exact hsc⟩
    have hyp : ({ x with marks := x.marks ++ [x.undo], mv := ⟨va3, x.mv.n + 1, vc3⟩ } : Tx).p = markG t := by rw [← hxp]; rfl
    have hyV : [Value.int .i64 x.num, .int .i64 x.state, .int .u64 x.first, .int .u64 x.last, .int .u64 x.undo, .slice x.sv.a x.sv.n x.sv.c, .slice va3 (x.mv.n + 1) vc3] = Ym { x with marks := x.marks ++ [x.undo], mv := ⟨va3, x.mv.n + 1, vc3⟩ } := rfl
    have hput := put18_spec ρ4 v ro (h.mono hle4) _ hy false
    rw [hyp, putO_false] at hput)
   all_goals (repeat' (first | (refine ZE ?_; refine Zo (Zd rfl) rfl rfl ?_) | (refine Zj ?_; first | (refine Zf ?_; refine qQ ?_) | refine Zn ?_) | refine Zb ?_ | (refine Zi ?_; refine Zv ?_) | (refine Zh ?_; refine Zu ?_) | intro _))
   all_goals
    refine ZD (Zs _ _ ([[(_, .cells ⟨Yh v ro⟩ 34 (0, 0))], [(b7, .cells ⟨Ym { x with marks := x.marks ++ [x.undo], mv := ⟨va3, x.mv.n + 1, vc3⟩ }⟩ 72 (0, 0))]])) (Zz (hT := tk) (Hp.le_refl _)) ?_
    all_goals (refine ZX 0 ?_; refine ZX 1 ?_; refine ZS 3 ?_; refine ZX 4 ?_; refine rBi 5 ?_)
    all_goals (refine Zp (i := 2) ?_; ((try refine Zk ?_); (first | (refine Ze (.func 203) ?_; refine qC rfl rfl (hput) ?_; rintro v ρ' L' hle ⟨hz1, v1, r1, rfl, hR1, hp1, rfl⟩ <;> (try simp only [kM, kN, kO])) | (refine Zn ?_; try intro _)) <;> ((try simp only [kM, kN, kO]); refine Zb ?_; refine Zl ?_)))
    all_goals (refine Zp (i := 6) ?_; ((try refine Zk ?_); (first | (refine Zn ?_; try intro _)) <;> ((try simp only [kM, kN, kO]); refine Zb ?_; refine Zl ?_)))
    all_goals (refine ZO ?_; refine rAs 7 ?_; refine rAs 8 ?_; refine ZI ?_)
    all_goals (repeat' (first | (refine ZE ?_; refine Zo (Zd rfl) rfl rfl ?_) | (refine Zj ?_; first | (refine Zf ?_; refine qQ ?_) | refine Zn ?_) | refine Zb ?_ | (refine Zi ?_; refine Zv ?_) | (refine Zh ?_; refine Zu ?_) | intro _))
    all_goals rw [hxm]
    all_goals exact qE (L' := []) (hle := Hp.le_trans hle4 hz1) ⟨Hp.le_trans hle4 hz1, v1, r1, rfl, hR1, hp1, rfl⟩
theorem cut18_spec (ρ : Hp) (v : SV) (ro : Ros) (h : RosIn ρ v ro) (num n : Int) (hn : i64in n) : Spec Tryz.prog 119 [.agg ⟨Yh v ro⟩, .int .i64 num, .int .i64 n] ρ []
  (fun z ρ' L' => ρ.le ρ' ∧ ∃ (v' : SV) (ro' : Ros), z = .tuple ⟨[.agg ⟨Yh v' ro'⟩, .int .i64 (WJ (cutF n) (Yf ro.p num))]⟩ ∧ RosIn ρ' v' ro' ∧ ro'.p = (if WJ (cutF n) (Yf ro.p num) = 0 then askT (cutG n) ro.p (Yf ro.p num) else ⟨0, []⟩) ∧ L' = []) := by
 have hw := where18_spec ρ v ro h num n hn
 refine Zg Tryz.func119 rfl rfl rfl fun u R => ?_
 simp only [Zx, List.cons_append, List.nil_append]
 by_cases hwe : WJ (XF n) (Yf ro.p num) = 0
 case' neg =>
  have he : WJ (cutF n) (Yf ro.p num) = WJ (XF n) (Yf ro.p num) := by
   revert hwe
   cases Yf ro.p num with
   | none => exact fun _ => rfl
   | some t =>
    intro hwe
    show (if t.state = 1 then cutF n t else 2) = (if t.state = 1 then XF n t else 2)
    replace hwe : ¬ (if t.state = 1 then XF n t else 2) = 0 := hwe
    by_cases hs : t.state = 1
    ·rw [if_pos hs] at hwe
     rw [if_pos hs, if_pos hs]
     unfold XF at hwe ⊢
     unfold cutF
     by_cases hh : n < 1 ∨ (t.marks.length : Int) < n
     ·rw [if_pos hh, if_pos hh]
     ·rw [if_neg hh] at hwe; exact absurd rfl hwe
    ·rw [if_neg hs, if_neg hs]
  rw [he]
  simp only [if_neg hwe] at hw ⊢
  generalize WJ (XF n) (Yf ro.p num) = e at *
  repeat' (first | (refine Ze (.func 56) ?_; refine qC rfl rfl (hw) ?_; rintro v ρ' L' hle ⟨rfl, rfl, rfl⟩ <;> (try simp only [kM, kN, kO])) | (refine ZE ?_; refine Zo (Zd rfl) rfl rfl ?_) | (refine Zj ?_; first | (refine Zf ?_; refine qQ ?_) | refine Zn ?_) | refine Zb ?_ | (refine Zi ?_; refine Zv ?_) | (refine Zh ?_; refine Zu ?_) | intro _)
  exact qE (L' := []) ⟨Hp.le_refl _, Xn, ⟨0, []⟩, rfl, RosIn.z, rfl, rfl⟩
 obtain ⟨t, hft, hs, h1, h2⟩ : ∃ t, Yf ro.p num = some t ∧ t.state = 1 ∧ 1 ≤ n ∧ n ≤ (t.marks.length : Int) := by
  revert hwe
  cases Yf ro.p num with
  | none => exact fun e => absurd (show (4 : Int) = 0 from e) (by decide)
  | some t =>
   intro hwe
   replace hwe : (if t.state = 1 then XF n t else 2) = 0 := hwe
   by_cases hs : t.state = 1
   ·rw [if_pos hs] at hwe
    unfold XF at hwe
    by_cases hh : n < 1 ∨ (t.marks.length : Int) < n
    ·rw [if_pos hh] at hwe; cases hwe
    ·exact ⟨t, rfl, hs, by omega, by omega⟩
   ·rw [if_neg hs] at hwe; cases hwe
 have hwv : whereV ro.p num n = whereN n t := by unfold whereV; rw [hft]
 rw [if_pos hwe, hwe, hwv] at hw
 have hf := find18_some ρ v ro h num hft
 have hce : WJ (cutF n) (some t) = (if t.marks.getD (n - 1).toNat 0 ≠ t.undo then 2 else 0) := by
  refine (if_pos hs).trans ?_
  unfold cutF
  rw [if_neg (by omega)]
 rw [hft, hce]
 unfold whereN at hw
 generalize t.marks.getD (n - 1).toNat 0 = m at *
 by_cases hmu : m ≠ t.undo
 ·simp only [if_pos hmu]
  repeat' (first | (refine Ze (.func 56) ?_; refine qC rfl rfl (hw) ?_; rintro v ρ' L' hle ⟨rfl, rfl, rfl⟩ <;> (try simp only [kM, kN, kO])) | (refine Ze (.func 53) ?_; refine qC rfl rfl (hf) ?_; rintro v ρ' L' hle ⟨rfl, x, rfl, hx, hp, rfl⟩ <;> (try simp only [kM, kN, kO]); have hst : x.undo = t.undo := congrArg TxP.undo hp) | (refine ZE ?_; refine Zo (Zd rfl) rfl rfl ?_) | (refine Zj ?_; first | (refine Zf ?_; refine qQ ?_) | refine Zn ?_) | refine Zb ?_ | (refine Zi ?_; refine Zv ?_) | (refine Zh ?_; refine Zu ?_) | intro _)
  exact qE (L' := []) ⟨Hp.le_refl _, Xn, ⟨0, []⟩, rfl, RosIn.z, rfl, rfl⟩
 ·simp only [if_neg hmu]
  obtain ⟨k, rfl⟩ : ∃ k : Nat, n = (k : Int) := ⟨n.toNat, by omega⟩
  have hf2 : Spec Tryz.prog 53 [.agg ⟨Yh v ro⟩, .int .i64 num] ρ [] (fun z ρ' L' => ρ' = ρ ∧ ∃ x, z = .tuple ⟨[.agg ⟨Ym x⟩, .bool true]⟩ ∧ Tx.In ρ' x ∧ x.p = t ∧ (x.undo = t.undo ∧ x.mv.n = t.marks.length ∧ x.mv.n ≤ x.mv.c) ∧ L' = []) := by
   refine hf.mono ?_
   rintro z ρ' L' _ ⟨q1, x, q2, q3, q4, q5⟩
   exact ⟨q1, x, q2, q3, q4, ⟨congrArg TxP.undo q4, by rw [← q3.m.len, ← q4], q3.mc⟩, q5⟩
  have hput : ∀ ρ2 x, RosIn ρ2 v ro → Tx.In ρ2 x → x.p = t → x.mv.n = t.marks.length → Spec Tryz.prog 203 [.agg ⟨Yh v ro⟩, .agg ⟨[.int .i64 x.num, .int .i64 x.state, .int .u64 x.first, .int .u64 x.last, .int .u64 x.undo, .slice x.sv.a x.sv.n x.sv.c, .slice x.mv.a (k : Int).toNat x.mv.c]⟩, .bool false] ρ2 [] (fun z ρ' L' => ρ2.le ρ' ∧ ∃ (v' : SV) (r' : Ros), z = .agg ⟨Yh v' r'⟩ ∧ RosIn ρ' v' r' ∧ r'.p = putT ro.p (cutG k t) ∧ L' = []) := fun ρ2 x q1 q2 q3 q4 => by
   have q5 := q2.mb
   have q6 := q2.mc
   have q7 : Tx.In ρ2 { x with marks := x.marks.take k, mv := ⟨x.mv.a, (k : Int).toNat, x.mv.c⟩ } := ⟨q2.s, by
    have := sIn_take q2.m k
    rwa [show min x.mv.n k = (k : Int).toNat by omega] at this, q2.sb, by dsimp only; omega, q2.sc, by dsimp only; omega⟩
   have q8 := put18_spec ρ2 v ro q1 _ q7 false
   rw [show ({ x with marks := x.marks.take k, mv := ⟨x.mv.a, (k : Int).toNat, x.mv.c⟩ } : Tx).p = cutG k t by rw [← q3]; rfl, putO_false] at q8
   exact q8
  repeat' (first | (refine Ze (.func 203) ?_; refine qC rfl rfl ((hput _ x h hx hp hml)) ?_; rintro v ρ' L' hle ⟨hz1, v1, r1, rfl, hR1, hp1, rfl⟩ <;> (try simp only [kM, kN, kO])) | (refine Ze (.func 56) ?_; refine qC rfl rfl (hw) ?_; rintro v ρ' L' hle ⟨rfl, rfl, rfl⟩ <;> (try simp only [kM, kN, kO])) | (refine Ze (.func 53) ?_; refine qC rfl rfl (hf2) ?_; rintro v ρ' L' hle ⟨rfl, x, rfl, hx, hp, ⟨hst, hml, hmc⟩, rfl⟩ <;> (try simp only [kM, kN, kO])) | (refine ZE ?_; refine Zo (Zd rfl) rfl rfl ?_) | (refine Zj ?_; first | (refine Zf ?_; refine qQ ?_) | refine Zn ?_) | refine Zb ?_ | (refine Zi ?_; refine Zv ?_) | (refine Zh ?_; refine Zu ?_) | intro _)
  exact qE (L' := []) ⟨hz1, v1, r1, rfl, hR1, hp1, rfl⟩
theorem copyO18_spec (ρ : Hp) (v : SV) (r : Ros) (h : RosIn ρ v r) (hB : RosB r.p) : Spec Tryz.prog 38 [.agg ⟨Yh v r⟩] ρ []
  (fun z ρ' L' => ρ.le ρ' ∧ ∃ (vv : Value) (sp : List Value) (acc : List Tx), z = .agg ⟨[.int .i64 r.next, vv]⟩ ∧ OwnS vv acc.length ((acc.map Ym).flatten) sp 7 ∧ acc.map Tx.p = r.p.txns ∧ (∀ x ∈ acc, Tx.In ρ' x) ∧ L' = [ZK vv ((acc.map Ym).flatten) sp 72]) := by
 have hl := h.at'.at'.len
 have hbig := h.at'.big
 refine Zg Tryz.func38 rfl rfl rfl fun u R => ?_
 simp only [Zx, List.cons_append, List.nil_append]
 have hpt : ∀ k (hk : k < r.txns.length), r.p.txns.take (k + 1) = r.p.txns.take k ++ [(r.txns[k]'hk).p] := fun k hk => by
  rw [List.take_succ_eq_append_getElem (by simp [Ros.p]; exact hk)]
  simp [Ros.p]
 repeat' (first | (refine ZE ?_; refine Zo (Zd rfl) rfl rfl ?_) | (refine Zj ?_; first | (refine Zf ?_; refine qQ ?_) | refine Zn ?_) | refine Zb ?_ | (refine Zi ?_; refine Zv ?_) | (refine Zh ?_; refine Zu ?_) | intro _)
 rename_i b1 b2
 refine ZB [(1, _), (2, _), (7, _), (8, _)] (fun (ζ : (Nat) × (Value) × (List Value) × (Hp) × (List Tx)) => [(9, .int .i64 ζ.1), (3, ζ.2.1)]) (fun (ζ : (Nat) × (Value) × (List Value) × (Hp) × (List Tx)) => ζ.2.2.2.1) (fun (ζ : (Nat) × (Value) × (List Value) × (Hp) × (List Tx)) => [ZK ζ.2.1 ((ζ.2.2.2.2.map Ym).flatten) ζ.2.2.1 72]) (fun (ζ : (Nat) × (Value) × (List Value) × (Hp) × (List Tx)) => ζ.1 ≤ v.n ∧ ρ.le ζ.2.2.2.1 ∧ OwnS ζ.2.1 ζ.2.2.2.2.length ((ζ.2.2.2.2.map Ym).flatten) ζ.2.2.1 7 ∧ ζ.2.2.2.2.map Tx.p = r.p.txns.take ζ.1 ∧ (∀ x ∈ ζ.2.2.2.2, Tx.In ζ.2.2.2.1 x)) (fun (ζ : (Nat) × (Value) × (List Value) × (Hp) × (List Tx)) => v.n - ζ.1) ((0, .slice none 0 0, [], ρ, [])) (⟨Nat.zero_le _, Hp.le_refl _, OwnS.nil 7, by simp, by simp⟩) Zm Zm rfl tk ?_
 rintro ⟨k, vv, sp, ρ1, acc⟩ hI
 try simp only [List.cons_append, List.nil_append, List.append_assoc, List.append_eq] at hI ⊢
 try dsimp only at hI ⊢
 obtain ⟨hk, hle1, hown, hmp, hac⟩ := hI
 have hal : acc.length = k := by
  have := congrArg List.length hmp
  simp only [List.length_map, List.length_take, Ros.p] at this
  omega
 obtain ⟨va, vc, rfl, _⟩ := hown.slice
 by_cases hlt : k < v.n
 ·obtain ⟨b, off, C, T, fr, e1, hb, hfit, hc⟩ := (h.at'.at'.mono hle1).get (show k < r.txns.length by omega)
  have hx2 := hpt k (by omega)
  have hin := (h.tx _ (List.getElem_mem (show k < r.txns.length by omega))).mono hle1
  have hbx := hB (r.txns[k]'(by omega)).p (List.mem_map.2 ⟨_, List.getElem_mem _, rfl⟩)
  generalize r.txns[k]'(by omega) = x at *
  have hxs := hin.s.len
  have hxm := hin.m.len
  have hcp := copied_spec ρ1 x hin (by have := hbx.1; simp only [Tx.p] at this; omega) (by have := hbx.2; simp only [Tx.p] at this; omega)
  rw [e1]
  repeat' (first | (refine Ze (.func 116) ?_; refine qC rfl rfl (hcp) ?_; rintro v ρ' L' hle ⟨hz1, y, rfl, hy, hyp, rfl⟩ <;> (try simp only [kM, kN, kO])) | (refine ZL (css := [Ym y]) (sz := 7) rfl rfl rfl rfl (by simp) (by simp) rfl (fun bs => ?_); simp only [List.flatten_cons, List.flatten_nil, List.append_nil]) | (refine ZV (ys := Ym y) (m := 1) rfl rfl hown (hR := by repeat (first | exact ZH | apply ZG)) SrcV.lit rfl rfl (by decide) rfl (by omega) (by omega) rfl (fun v3 sp3 hown3 => ?_)) | (refine ZE ?_; refine Zo (Zd rfl) rfl rfl ?_) | (refine Zj ?_; first | (refine Zf ?_; refine qQ ?_) | refine Zn ?_) | refine Zb ?_ | (refine Zi ?_; refine Zv ?_) | (refine Zh ?_; refine Zu ?_) | intro _)
  have hm : (acc.map Ym).flatten ++ Ym y = ((acc ++ [y]).map Ym).flatten := by simp
  rw [hm] at hown3 ⊢
  have hmp2 : (acc ++ [y]).map Tx.p = r.p.txns.take (k + 1) := by rw [List.map_append, hmp, hx2, ← hyp]; rfl
  have hac2 : ∀ z ∈ acc ++ [y], Tx.In ρ' z := fun z hz => by
   rcases List.mem_append.1 hz with hz | hz
   ·exact (hac z hz).mono hz1
   ·rw [List.mem_singleton.1 hz]; exact hy
  rw [← e1]
  refine Zq (k + 1, v3, sp3, ρ', acc ++ [y]) (⟨hlt, Hp.le_trans hle1 hz1, by rw [List.length_append]; exact hown3, hmp2, hac2⟩) Zm Zm rfl tk inferInstance (by first | omega | (dsimp only; omega))
 ·have hkn : k = r.txns.length := by omega
  repeat' (first | (refine ZE ?_; refine Zo (Zd rfl) rfl rfl ?_) | (refine Zj ?_; first | (refine Zf ?_; refine qQ ?_) | refine Zn ?_) | refine Zb ?_ | (refine Zi ?_; refine Zv ?_) | (refine Zh ?_; refine Zu ?_) | intro _)
  have q : acc.map Tx.p = r.p.txns := by rw [hmp, List.take_of_length_le (by simp [Ros.p]; omega)]
  exact qE (L' := [ZK (.slice va acc.length vc) ((acc.map Ym).flatten) sp 72]) (hle := hle1) ⟨hle1, _, sp, acc, rfl, hown, q, hac, rfl⟩
end Go.Proofs.E
