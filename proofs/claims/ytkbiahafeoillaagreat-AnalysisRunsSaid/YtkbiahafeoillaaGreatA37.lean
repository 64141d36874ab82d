/- Laws of analysis. Part 37 of 41. -/
import Derived.Test.YtkbiahafeoillaaGreatA36
namespace Go.Proofs.E
open Go
set_option linter.unusedVariables false
set_option linter.unusedSimpArgs false
set_option linter.unusedSectionVars false
set_option maxRecDepth 4000
set_option maxHeartbeats 1000000
attribute [local irreducible] Yl TL TC TE Spec Xb R1 Hp.le EnvLe TS TR YS Zk
theorem takenY_spec (ρ : Hp) (x : Tx) (hin : Tx.In ρ x) (hb1 : x.sv.n ≤ 1099511627776) (hb2 : x.mv.n ≤ 1099511627776) (rv : RV) (r : Rc) (hr : RcIn ρ rv r) (hok : ZU r = true) (k8 : r.kind ≠ 8) (k2 : 2 ≤ r.kind) (k7 : r.kind ≤ 7) (hm : mayT x.p r = true) : Spec Tryz.prog 160 [.agg ⟨Yk x⟩, .agg ⟨Yx rv r⟩] ρ []
  (fun z ρ' L' => ρ.le ρ' ∧ ∃ y : Tx, z = .tuple ⟨[.agg ⟨Yk y⟩, .bool false, .int .i64 0]⟩ ∧ Tx.In ρ' y ∧ y.p = XN x.p r ∧ L' = []) := by
 rw [mayT_iff] at hm
 simp only [Tx.p] at hm
 have hx1 : Tx.In ρ { x with last := r.lsn } := ⟨hin.s, hin.m, hin.sb, hin.mb, hin.sc, hin.mc⟩
 have hpush := pushed18_spec ρ { x with last := r.lsn } hx1 (by dsimp only; omega) (by dsimp only; omega) rv r hr hok
 have hback := back18_spec ρ { x with last := r.lsn } hx1 r.next (by dsimp only; omega) (by dsimp only; omega)
 refine Zd Tryz.func160 rfl rfl rfl fun u R => ?_
 simp only [Zo, List.cons_append, List.nil_append]
 by_cases k : r.kind = 6
 ·have hn : XN x.p r = { x.p with last := r.lsn, state := 3, marks := [], stack := [] } := by
   unfold XN
   rw [if_neg (by omega), if_neg (by omega), if_neg (by omega), if_pos k]
  by_cases c1 : x.first ≤ r.next <;> by_cases c2 : r.next ≤ x.undo
  all_goals
   repeat' (first | refine zV ?_ | intro _)
   exact qE (L' := []) ⟨Hp.le_refl _, ⟨x.num, 3, x.first, r.lsn, x.undo, [], [], ⟨none, 0, 0⟩, ⟨none, 0, 0⟩⟩, rfl, ⟨AIn.nil, SIn.nil, Nat.zero_le _, Nat.zero_le _, Nat.le_refl _, Nat.le_refl _⟩, by rw [hn], rfl⟩
 by_cases k7 : r.kind = 7
 ·have hn : XN x.p r = { x.p with last := r.lsn, state := 2, marks := [] } := by
   unfold XN
   rw [if_neg (by omega), if_neg (by omega), if_neg (by omega), if_neg k]
  by_cases c1 : x.first ≤ r.next <;> by_cases c2 : r.next ≤ x.undo
  all_goals
   repeat' (first | refine zV ?_ | intro _)
   exact qE (L' := []) ⟨Hp.le_refl _, ⟨x.num, 2, x.first, r.lsn, x.undo, x.stack, [], x.sv, ⟨none, 0, 0⟩⟩, rfl, ⟨hin.s, SIn.nil, hin.sb, Nat.zero_le _, hin.sc, Nat.le_refl _⟩, by rw [hn], rfl⟩
 by_cases k2 : r.kind = 2
 ·have hn : XN x.p r = pushT { x.p with last := r.lsn } r := by unfold XN; rw [if_pos k2]
  by_cases c1 : x.first ≤ r.next <;> by_cases c2 : r.next ≤ x.undo
  all_goals
   repeat' (first | (refine Zc (.func 184) ?_; refine qC rfl rfl (hpush) ?_; rintro v ρ' L' hle ⟨hz1, y, rfl, hy, hyp, rfl⟩ <;> (try simp only [kM, kN, kO])) | refine zV ?_ | intro _)
   exact qE (L' := []) ⟨hz1, y, rfl, hy, by rw [hn, hyp], rfl⟩
 by_cases k4 : r.kind = 4
 ·have hn : XN x.p r = pushT (backT { x.p with last := r.lsn } r.next) r := by
   unfold XN
   rw [if_neg k2, if_neg (by omega), if_pos k4]
  have hpush2 : ∀ ρ2 y, ρ.le ρ2 → Tx.In ρ2 y → y.p = backT { x.p with last := r.lsn } r.next → Spec Tryz.prog 184 [.agg ⟨Yk y⟩, .agg ⟨Yx rv r⟩] ρ2 [] (fun z ρ' L' => ρ2.le ρ' ∧ ∃ y2 : Tx, z = .agg ⟨Yk y2⟩ ∧ Tx.In ρ' y2 ∧ y2.p = XN x.p r ∧ L' = []) := fun ρ2 y h1 h2 h3 => by
   have e1 : y.stack = x.stack.filter (fun s => decide (s.lsn ≤ r.next)) := congrArg TxP.stack h3
   have e2 : y.marks = x.marks.filter (fun m => decide (m ≤ r.next)) := congrArg TxP.marks h3
   have l1 := List.length_filter_le (fun s : Lf => decide (s.lsn ≤ r.next)) x.stack
   have l2 := List.length_filter_le (fun m : Nat => decide (m ≤ r.next)) x.marks
   have l3 := h2.s.len
   have l4 := h2.m.len
   have l5 := hin.s.len
   have l6 := hin.m.len
   rw [← e1] at l1
   rw [← e2] at l2
   refine (pushed18_spec ρ2 y h2 (by omega) (by omega) rv r (hr.mono h1) hok).mono ?_
   rintro z ρ' L' _ ⟨q1, y2, q2, q3, q4, q5⟩
   exact ⟨q1, y2, q2, q3, by rw [hn, q4, h3], q5⟩
  repeat' (first | refine zV ?_ | intro _)
  refine tc_phase 6 (Zk _ _ ([[(_, .cells ⟨Yx rv r⟩ 34 (0, 0))], [(_, .cells ⟨Yk { x with last := r.lsn }⟩ 45 (0, 0))]])) (by decide +kernel) (Zw (hT := tk) (Hp.le_refl _)) ?_
  simp only [List.take_succ_cons, List.take_zero]
  all_goals (refine ZQ 0 ?_; refine ZN 1 ?_; refine ZQ 2 ?_; refine ZQ 4 ?_)
  all_goals (refine Zj (i := 3) ?_; ((try refine Zh ?_); (first | (refine Zc (.func 185) ?_; refine qC rfl rfl (hback) ?_; rintro v ρ' L' hle ⟨hz1, y, rfl, hy, hyp, rfl⟩ <;> (try simp only [kM, kN, kO])) | (refine ZF ?_; try intro _)) <;> ((try simp only [kM, kN, kO]); refine Zf ?_; refine Zi ?_)))
  all_goals (refine Zj (i := 5) ?_; ((try refine Zh ?_); (first | (refine Zc (.func 184) ?_; refine qC rfl rfl ((hpush2 _ y hz1 hy hyp)) ?_; rintro v ρ' L' hle ⟨hz2, y2, rfl, hy2, hyp2, rfl⟩ <;> (try simp only [kM, kN, kO])) | (refine ZF ?_; try intro _)) <;> ((try simp only [kM, kN, kO]); refine Zf ?_; refine Zi ?_)))
  all_goals refine Zv ?_
  all_goals refine te_phase (fuel := 1) (m := [true, true, true, true, true, true, false]) (Zk _ _ ([])) rfl rfl (Zw (hT := tk) (Hp.le_refl _)) ?_
  all_goals (refine Zj (i := 6) ?_; ((try refine Zh ?_); (first | (refine ZF ?_; try intro _)) <;> ((try simp only [kM, kN, kO]); refine Zf ?_; refine Zi ?_)))
  all_goals refine Zv ?_
  all_goals (repeat' (first | refine zV ?_ | intro _))
  all_goals exact qE (L' := []) (hle := Hp.le_trans hz1 hz2) ⟨Hp.le_trans hz1 hz2, y2, rfl, hy2, hyp2, rfl⟩
 have hn : XN x.p r = backT { x.p with last := r.lsn } r.next := by unfold XN; rw [if_neg k2, if_pos (by omega)]
 by_cases k3 : r.kind = 3
 ·repeat' (first | (refine Zc (.func 185) ?_; refine qC rfl rfl (hback) ?_; rintro v ρ' L' hle ⟨hz1, y, rfl, hy, hyp, rfl⟩ <;> (try simp only [kM, kN, kO])) | refine zV ?_ | intro _)
  exact qE (L' := []) ⟨hz1, y, rfl, hy, by rw [hn, hyp], rfl⟩
 ·have k5 : r.kind = 5 := by omega
  by_cases c3 : x.state = 1
  all_goals
   repeat' (first | (refine Zc (.func 185) ?_; refine qC rfl rfl (hback) ?_; rintro v ρ' L' hle ⟨hz1, y, rfl, hy, hyp, rfl⟩ <;> (try simp only [kM, kN, kO])) | refine zV ?_ | intro _)
   exact qE (L' := []) ⟨hz1, y, rfl, hy, by rw [hn, hyp], rfl⟩
theorem copyO18_spec (ρ : Hp) (v : SV) (r : Ros) (h : RosIn ρ v r) (hB : RosB r.p) : Spec Tryz.prog 159 [.agg ⟨XI v r⟩] ρ []
  (fun z ρ' L' => ρ.le ρ' ∧ ∃ (vv : Value) (sp : List Value) (acc : List Tx), z = .agg ⟨[.int .i64 r.next, vv]⟩ ∧ OwnS vv acc.length ((acc.map Yk).flatten) sp 7 ∧ acc.map Tx.p = r.p.txns ∧ (∀ x ∈ acc, Tx.In ρ' x) ∧ L' = [ZG vv ((acc.map Yk).flatten) sp 45]) := by
 have hl := h.at'.at'.len
 have hbig := h.at'.big
 refine Zd Tryz.func159 rfl rfl rfl fun u R => ?_
 simp only [Zo, List.cons_append, List.nil_append]
 have hpt : ∀ k (hk : k < r.txns.length), r.p.txns.take (k + 1) = r.p.txns.take k ++ [(r.txns[k]'hk).p] := fun k hk => by
  rw [List.take_succ_eq_append_getElem (by simp [Ros.p]; exact hk)]
  simp [Ros.p]
 repeat' (first | refine zV ?_ | intro _)
 rename_i b1 b2
 refine Zq [(1, _), (2, _), (7, _), (8, _)] (fun (ζ : (Nat) × (Value) × (List Value) × (Hp) × (List Tx)) => [(9, .int .i64 ζ.1), (3, ζ.2.1)]) (fun (ζ : (Nat) × (Value) × (List Value) × (Hp) × (List Tx)) => ζ.2.2.2.1) (fun (ζ : (Nat) × (Value) × (List Value) × (Hp) × (List Tx)) => [ZG ζ.2.1 ((ζ.2.2.2.2.map Yk).flatten) ζ.2.2.1 45]) (fun (ζ : (Nat) × (Value) × (List Value) × (Hp) × (List Tx)) => ζ.1 ≤ v.n ∧ ρ.le ζ.2.2.2.1 ∧ OwnS ζ.2.1 ζ.2.2.2.2.length ((ζ.2.2.2.2.map Yk).flatten) ζ.2.2.1 7 ∧ ζ.2.2.2.2.map Tx.p = r.p.txns.take ζ.1 ∧ (∀ x ∈ ζ.2.2.2.2, Tx.In ζ.2.2.2.1 x)) (fun (ζ : (Nat) × (Value) × (List Value) × (Hp) × (List Tx)) => v.n - ζ.1) ((0, .slice none 0 0, [], ρ, [])) (⟨Nat.zero_le _, Hp.le_refl _, OwnS.nil 7, by simp, by simp⟩) Ze Ze rfl tk ?_
 rintro ⟨k, vv, sp, ρ1, acc⟩ hI
 try simp only [List.cons_append, List.nil_append, List.append_assoc, List.append_eq] at hI ⊢
 try dsimp only at hI ⊢
 obtain ⟨hk, hle1, hown, hmp, hac⟩ := hI
 have hal : acc.length = k := by
  have := congrArg List.length hmp
  simp only [List.length_map, List.length_take, Ros.p] at this
  omega
 obtain ⟨va, vc, rfl, _⟩ := hown.slice
 by_cases hlt : k < v.n
 ·obtain ⟨b, off, C, T, fr, e1, hb, hfit, hc⟩ := (h.at'.at'.mono hle1).get (show k < r.txns.length by omega)
  have hx2 := hpt k (by omega)
  have hin := (h.tx _ (List.getElem_mem (show k < r.txns.length by omega))).mono hle1
  have hbx := hB (r.txns[k]'(by omega)).p (List.mem_map.2 ⟨_, List.getElem_mem _, rfl⟩)
  generalize r.txns[k]'(by omega) = x at *
  have hxs := hin.s.len
  have hxm := hin.m.len
  have hcp := copied_spec ρ1 x hin (by have := hbx.1; simp only [Tx.p] at this; omega) (by have := hbx.2; simp only [Tx.p] at this; omega)
  rw [e1]
  repeat' (first | (refine Zc (.func 183) ?_; refine qC rfl rfl (hcp) ?_; rintro v ρ' L' hle ⟨hz1, y, rfl, hy, hyp, rfl⟩ <;> (try simp only [kM, kN, kO])) | (refine ZH (css := [Yk y]) (sz := 7) rfl rfl rfl rfl (by simp) (by simp) rfl (fun bs => ?_); simp only [List.flatten_cons, List.flatten_nil, List.append_nil]) | (refine ZZ (ys := Yk y) (m := 1) rfl rfl hown (hR := by repeat (first | exact ZD | apply ZA)) SrcV.lit rfl rfl (by decide) rfl (by omega) (by omega) rfl (fun v3 sp3 hown3 => ?_)) | refine zV ?_ | intro _)
  have hm : (acc.map Yk).flatten ++ Yk y = ((acc ++ [y]).map Yk).flatten := by simp
  rw [hm] at hown3 ⊢
  have hmp2 : (acc ++ [y]).map Tx.p = r.p.txns.take (k + 1) := by rw [List.map_append, hmp, hx2, ← hyp]; rfl
  have hac2 : ∀ z ∈ acc ++ [y], Tx.In ρ' z := fun z hz => by
   rcases List.mem_append.1 hz with hz | hz
   ·exact (hac z hz).mono hz1
   ·rw [List.mem_singleton.1 hz]; exact hy
  rw [← e1]
  refine Zg (k + 1, v3, sp3, ρ', acc ++ [y]) (⟨hlt, Hp.le_trans hle1 hz1, by rw [List.length_append]; exact hown3, hmp2, hac2⟩) Ze Ze rfl tk inferInstance (by first | omega | (dsimp only; omega))
 ·have hkn : k = r.txns.length := by omega
  repeat' (first | refine zV ?_ | intro _)
  have q : acc.map Tx.p = r.p.txns := by rw [hmp, List.take_of_length_le (by simp [Ros.p]; omega)]
  exact qE (L' := [ZG (.slice va acc.length vc) ((acc.map Yk).flatten) sp 45]) (hle := hle1) ⟨hle1, _, sp, acc, rfl, hown, q, hac, rfl⟩
def XY (p : Xh) (r : Rc) : Int := if ZU r then YI p r else 220
def Xx (p : Xh) (r : Rc) : Xh := if XY p r = 0 then Xn p r else ⟨0, []⟩
abbrev Xz (ρ : Hp) (v : SV) (ro : Ros) (rv : RV) (r : Rc) : Prop := Spec Tryz.prog 122 [.agg ⟨XI v ro⟩, .agg ⟨Yx rv r⟩] ρ []
  (fun z ρ' L' => ρ.le ρ' ∧ ∃ (v' : SV) (ro' : Ros), z = .tuple ⟨[.agg ⟨XI v' ro'⟩, .int .i64 (XY ro.p r)]⟩ ∧ RosIn ρ' v' ro' ∧ ro'.p = Xx ro.p r ∧ L' = [])
theorem take18_bad (ρ : Hp) (v : SV) (ro : Ros) (h : RosIn ρ v ro) (rv : RV) (r : Rc) (hr : RcIn ρ rv r) (hok : ZU r = false) : Xz ρ v ro rv r := by
 have hri := Xe ρ rv r hr
 rw [hok] at hri
 have e : XY ro.p r = 220 := by unfold XY; rw [hok]; rfl
 have e2 : Xx ro.p r = ⟨0, []⟩ := by unfold Xx; rw [e]; rfl
 unfold Xz
 rw [e, e2]
 refine Zd Tryz.func122 rfl rfl rfl fun u R => ?_
 simp only [Zo, List.cons_append, List.nil_append]
 repeat' (first | (refine Zc (.func 36) ?_; refine qC rfl rfl (hri) ?_; rintro v ρ' L' hle ⟨rfl, rfl, rfl⟩ <;> (try simp only [kM, kN, kO])) | refine zV ?_ | intro _)
 exact qE (L' := []) ⟨Hp.le_refl _, Yw, ⟨0, []⟩, rfl, RosIn.z, rfl, rfl⟩
theorem take18_9 (ρ : Hp) (v : SV) (ro : Ros) (h : RosIn ρ v ro) (rv : RV) (r : Rc) (hr : RcIn ρ rv r) (hok : ZU r = true) (k9 : r.kind = 9) : Xz ρ v ro rv r := by
 have hri := Xe ρ rv r hr
 rw [hok] at hri
 have e : XY ro.p r = 0 := by unfold XY YI; rw [hok, if_pos rfl, if_pos k9]
 have e2 : Xx ro.p r = ro.p := by unfold Xx Xn; rw [e, if_pos rfl, if_pos k9]
 unfold Xz
 rw [e, e2]
 refine Zd Tryz.func122 rfl rfl rfl fun u R => ?_
 simp only [Zo, List.cons_append, List.nil_append]
 repeat' (first | (refine Zc (.func 36) ?_; refine qC rfl rfl (hri) ?_; rintro v ρ' L' hle ⟨rfl, rfl, rfl⟩ <;> (try simp only [kM, kN, kO])) | refine zV ?_ | intro _)
 exact qE (L' := []) ⟨Hp.le_refl _, v, ro, rfl, h, rfl, rfl⟩
def newY (r : Rc) : Tx := ⟨r.txn, 1, r.lsn, r.lsn, r.lsn, [], [], ⟨none, 0, 0⟩, ⟨none, 0, 0⟩⟩
theorem newY_in (ρ : Hp) (r : Rc) : Tx.In ρ (newY r) := ⟨AIn.nil, SIn.nil, Nat.zero_le _, Nat.zero_le _, Nat.le_refl _, Nat.le_refl _⟩
theorem take18_1 (ρ : Hp) (v : SV) (ro : Ros) (h : RosIn ρ v ro) (hG : RosG ro.p) (rv : RV) (r : Rc) (hr : RcIn ρ rv r) (hok : ZU r = true) (k1 : r.kind = 1) : Xz ρ v ro rv r := by
 have hri := Xe ρ rv r hr
 rw [hok] at hri
 have hl := h.at'.at'.len
 have hpl : ro.p.txns.length = v.n := by simp [Ros.p, hl]
 have hnx : ro.p.next = ro.next := rfl
 have hn1 := hG.n1
 have hn2 := hG.n2
 rw [hnx] at hn1 hn2
 have e : XY ro.p r = if r.txn ≠ ro.next ∨ ro.next = 1073741824 then 2 else if 8 ≤ v.n then 6 else 0 := by unfold XY YI; rw [hok, if_pos rfl, if_neg (by omega), if_pos k1, hpl, hnx]
 by_cases c1 : r.txn ≠ ro.next ∨ ro.next = 1073741824
 ·rw [if_pos c1] at e
  have e2 : Xx ro.p r = ⟨0, []⟩ := by unfold Xx; rw [e]; rfl
  unfold Xz
  rw [e, e2]
  refine Zd Tryz.func122 rfl rfl rfl fun u R => ?_
  simp only [Zo, List.cons_append, List.nil_append]
  by_cases c2 : r.txn = ro.next
  all_goals
   repeat' (first | (refine Zc (.func 36) ?_; refine qC rfl rfl (hri) ?_; rintro v ρ' L' hle ⟨rfl, rfl, rfl⟩ <;> (try simp only [kM, kN, kO])) | refine zV ?_ | intro _)
   exact qE (L' := []) ⟨Hp.le_refl _, Yw, ⟨0, []⟩, rfl, RosIn.z, rfl, rfl⟩
 rw [if_neg c1] at e
 by_cases c3 : 8 ≤ v.n
 ·rw [if_pos c3] at e
  have e2 : Xx ro.p r = ⟨0, []⟩ := by unfold Xx; rw [e]; rfl
  unfold Xz
  rw [e, e2]
  refine Zd Tryz.func122 rfl rfl rfl fun u R => ?_
  simp only [Zo, List.cons_append, List.nil_append]
  repeat' (first | (refine Zc (.func 36) ?_; refine qC rfl rfl (hri) ?_; rintro v ρ' L' hle ⟨rfl, rfl, rfl⟩ <;> (try simp only [kM, kN, kO])) | refine zV ?_ | intro _)
  exact qE (L' := []) ⟨Hp.le_refl _, Yw, ⟨0, []⟩, rfl, RosIn.z, rfl, rfl⟩
 rw [if_neg c3] at e
 have e2 : Xx ro.p r = ⟨ro.next + 1, ro.p.txns ++ [newT r]⟩ := by unfold Xx Xn; rw [e, if_pos rfl, if_neg (by omega), if_pos k1]
 have hcp : Spec Tryz.prog 159 [.agg ⟨XI v ro⟩] ρ [] (fun z ρ' L' => ρ.le ρ' ∧ ∃ (va : Option Addr) (vc : Nat) (sp : List Value) (acc : List Tx), z = .agg ⟨[.int .i64 ro.next, .slice va acc.length vc]⟩ ∧ OwnS (.slice va acc.length vc) acc.length ((acc.map Yk).flatten) sp 7 ∧ acc.map Tx.p = ro.p.txns ∧ (∀ x ∈ acc, Tx.In ρ' x) ∧ acc.length ≤ 8 ∧ L' = [ZG (.slice va acc.length vc) ((acc.map Yk).flatten) sp 45]) := by
  refine (copyO18_spec ρ v ro h hG.rosB).mono ?_
  rintro z ρ' L' _ ⟨q1, vv, sp, acc, rfl, q3, q4, q5, rfl⟩
  obtain ⟨va, vc, rfl, _⟩ := q3.slice
  have := congrArg List.length q4
  have q8 := hG.len
  rw [List.length_map] at this
  exact ⟨q1, va, vc, sp, acc, rfl, q3, q4, q5, by omega, rfl⟩
 unfold Xz
 rw [e, e2]
 refine Zd Tryz.func122 rfl rfl rfl fun u R => ?_
 simp only [Zo, List.cons_append, List.nil_append]
 repeat' (first | (refine Zc (.func 36) ?_; refine qC rfl rfl (hri) ?_; rintro v ρ' L' hle ⟨rfl, rfl, rfl⟩ <;> (try simp only [kM, kN, kO])) | (refine Zc (.func 159) ?_; refine qC rfl rfl (hcp) ?_; rintro v ρ' L' hle ⟨hz1, va, vc, sp, acc, rfl, hown, hap, hac, hal, rfl⟩ <;> (try simp only [kM, kN, kO])) | (refine ZH (css := [Yk (newY r)]) (sz := 7) rfl rfl rfl rfl (by simp) (by simp) rfl (fun bs => ?_); simp only [List.flatten_cons, List.flatten_nil, List.append_nil]) | (refine ZZ (ys := Yk (newY r)) (m := 1) rfl rfl hown (hR := by repeat (first | exact ZD | apply ZA)) SrcV.lit rfl rfl (by decide) rfl (by omega) (by omega) rfl (fun v3 sp3 hown3 => ?_); obtain ⟨va3, vc3, rfl, _⟩ := hown3.slice) | refine zV ?_ | intro _)
 refine ZY (ZG (.slice va3 (acc.length + 1) vc3) ((acc.map Yk).flatten ++ Yk (newY r)) sp3 45) (h := by repeat (first | exact ZD | apply ZA)) (fun ρ4 hle4 hf4 => ?_)
 have hm : (acc.map Yk).flatten ++ Yk (newY r) = ((acc ++ [newY r]).map Yk).flatten := by simp
 have hln : acc.length + 1 = (acc ++ [newY r]).length := by simp
 rw [hm, hln] at hown3 hf4
 obtain ⟨sa, sc, f1, hsc, hA2⟩ := hown3.aIn rfl (fun x _ => txV_len x) hf4
 obtain ⟨f3, _, f4⟩ := Value.slice.inj f1
 subst f3; subst f4
 have hin4 : ∀ y ∈ acc ++ [newY r], Tx.In ρ4 y := fun y hy => by
  rcases List.mem_append.1 hy with hy | hy
  ·exact (hac y hy).mono hle4
  ·rw [List.mem_singleton.1 hy]; exact newY_in _ r
 have hpp : (⟨ro.next + 1, acc ++ [newY r]⟩ : Ros).p = ⟨ro.next + 1, ro.p.txns ++ [newT r]⟩ := by
  show (⟨ro.next + 1, (acc ++ [newY r]).map Tx.p⟩ : Xh) = _
  rw [List.map_append, hap]; rfl
 exact qE (L' := []) (hle := Hp.le_trans hz1 hle4) ⟨Hp.le_trans hz1 hle4, ⟨va3, acc.length + 1, vc3⟩, ⟨ro.next + 1, acc ++ [newY r]⟩, rfl, ⟨⟨by rw [hln]; exact hA2, by show acc.length + 1 ≤ 1000000; omega, by rw [hln]; exact hsc⟩, hin4⟩, hpp, rfl⟩
theorem takeT_e (p : Xh) (r : Rc) (hok : ZU r = true) (k2 : 2 ≤ r.kind) (k8 : r.kind ≤ 8) : XY p r = ownE (Xg p r.txn) r := by
 unfold XY YI; rw [hok, if_pos rfl, if_neg (by omega), if_neg (by omega)]
theorem takeT_p (p : Xh) (r : Rc) (hok : ZU r = true) (k2 : 2 ≤ r.kind) (k8 : r.kind ≤ 8) : Xx p r = if ownE (Xg p r.txn) r = 0 then ownP p (Xg p r.txn) r else ⟨0, []⟩ := by
 unfold Xx; rw [takeT_e p r hok k2 k8]; unfold Xn; rw [if_neg (show ¬ r.kind = 9 by omega), if_neg (show ¬ r.kind = 1 by omega)]
theorem take18_n (ρ : Hp) (v : SV) (ro : Ros) (h : RosIn ρ v ro) (rv : RV) (r : Rc) (hr : RcIn ρ rv r) (hok : ZU r = true) (k2 : 2 ≤ r.kind) (k8 : r.kind ≤ 8) (hf0 : Xg ro.p r.txn = none) : Xz ρ v ro rv r := by
 have hri := Xe ρ rv r hr
 rw [hok] at hri
 have e := takeT_e ro.p r hok k2 k8
 have e2 := takeT_p ro.p r hok k2 k8
 rw [hf0] at e e2
 replace e : XY ro.p r = 4 := e
 replace e2 : Xx ro.p r = ⟨0, []⟩ := e2
 have hf := find18_spec ρ v ro h r.txn
 have hf2 : Spec Tryz.prog 120 [.agg ⟨XI v ro⟩, .int .i64 r.txn] ρ [] (fun z ρ' L' => z = .tuple ⟨[.agg ⟨Yk zX⟩, .bool false]⟩ ∧ ρ' = ρ ∧ L' = []) := by
  refine hf.mono ?_
  rintro z ρ' L' _ ⟨q1, x, b, q2, q3, ⟨t', q4, _⟩ | ⟨_, q5, q6⟩, q7⟩
  ·rw [hf0] at q4; cases q4
  ·exact ⟨by rw [q2, q5, q6], q1, q7⟩
 unfold Xz
 rw [e, e2]
 refine Zd Tryz.func122 rfl rfl rfl fun u R => ?_
 simp only [Zo, List.cons_append, List.nil_append]
 repeat' (first | (refine Zc (.func 36) ?_; refine qC rfl rfl (hri) ?_; rintro v ρ' L' hle ⟨rfl, rfl, rfl⟩ <;> (try simp only [kM, kN, kO])) | (refine Zc (.func 120) ?_; refine qC rfl rfl (hf2) ?_; rintro v ρ' L' hle ⟨rfl, rfl, rfl⟩ <;> (try simp only [kM, kN, kO])) | refine zV ?_ | intro _)
 exact qE (L' := []) ⟨Hp.le_refl _, Yw, ⟨0, []⟩, rfl, RosIn.z, rfl, rfl⟩
theorem find18_t (ρ : Hp) (v : SV) (ro : Ros) (h : RosIn ρ v ro) (hB : RosB ro.p) (num : Int) {t : TxP} (ho : Xg ro.p num = some t) : Spec Tryz.prog 120 [.agg ⟨XI v ro⟩, .int .i64 num] ρ []
  (fun z ρ' L' => ρ' = ρ ∧ ∃ x, z = .tuple ⟨[.agg ⟨Yk x⟩, .bool true]⟩ ∧ Tx.In ρ' x ∧ x.p = t ∧ (x.last = t.last ∧ x.sv.n ≤ 1099511627776 ∧ x.mv.n ≤ 1099511627776) ∧ L' = []) := by
 refine (find18_some ρ v ro h num ho).mono ?_
 rintro z ρ' L' _ ⟨q1, x, q2, q3, q4, q5⟩
 have hb := hB t (findT_mem ho).1
 refine ⟨q1, x, q2, q3, q4, ⟨congrArg TxP.last q4, ?_, ?_⟩, q5⟩
 ·rw [← q3.s.len, show x.stack = t.stack from congrArg TxP.stack q4]; exact hb.1
 ·rw [← q3.m.len, show x.marks = t.marks from congrArg TxP.marks q4]; exact hb.2
theorem take18_p (ρ : Hp) (v : SV) (ro : Ros) (h : RosIn ρ v ro) (hB : RosB ro.p) (rv : RV) (r : Rc) (hr : RcIn ρ rv r) (hok : ZU r = true) (k2 : 2 ≤ r.kind) (k8 : r.kind ≤ 8) {t : TxP} (hf0 : Xg ro.p r.txn = some t) (hp : r.prev ≠ t.last) : Xz ρ v ro rv r := by
 have hri := Xe ρ rv r hr
 rw [hok] at hri
 have e := takeT_e ro.p r hok k2 k8
 have e2 := takeT_p ro.p r hok k2 k8
 have e3 : ownE (some t) r = 2 := if_pos hp
 rw [hf0, e3] at e e2
 replace e2 : Xx ro.p r = ⟨0, []⟩ := e2
 have hf := find18_t ρ v ro h hB r.txn hf0
 unfold Xz
 rw [e, e2]
 refine Zd Tryz.func122 rfl rfl rfl fun u R => ?_
 simp only [Zo, List.cons_append, List.nil_append]
 repeat' (first | (refine Zc (.func 36) ?_; refine qC rfl rfl (hri) ?_; rintro v ρ' L' hle ⟨rfl, rfl, rfl⟩ <;> (try simp only [kM, kN, kO])) | (refine Zc (.func 120) ?_; refine qC rfl rfl (hf) ?_; rintro v ρ' L' hle ⟨rfl, x, rfl, hx, hxp, ⟨hxl, hxs, hxm⟩, rfl⟩ <;> (try simp only [kM, kN, kO])) | refine zV ?_ | intro _)
 exact qE (L' := []) ⟨Hp.le_refl _, Yw, ⟨0, []⟩, rfl, RosIn.z, rfl, rfl⟩
theorem take18_8 (ρ : Hp) (v : SV) (ro : Ros) (h : RosIn ρ v ro) (hB : RosB ro.p) (rv : RV) (r : Rc) (hr : RcIn ρ rv r) (hok : ZU r = true) (k8 : r.kind = 8) {t : TxP} (hf0 : Xg ro.p r.txn = some t) (hp : r.prev = t.last) : Xz ρ v ro rv r := by
 have hri := Xe ρ rv r hr
 rw [hok] at hri
 have e := takeT_e ro.p r hok (by omega) (by omega)
 have e2 := takeT_p ro.p r hok (by omega) (by omega)
 have e3 : ownE (some t) r = 0 := (if_neg (fun c => c hp)).trans (if_pos k8)
 have e4 : ownP ro.p (some t) r = dropT ro.p r.txn := if_pos k8
 rw [hf0, e3] at e e2
 rw [if_pos rfl, e4] at e2
 have hf := find18_t ρ v ro h hB r.txn hf0
 have hnum := (findT_mem hf0).2
 have hput : ∀ ρ2 x, RosIn ρ2 v ro → Tx.In ρ2 x → x.p = t → Spec Tryz.prog 161 [.agg ⟨XI v ro⟩, .agg ⟨Yk x⟩, .bool true] ρ2 [] (fun z ρ' L' => ρ2.le ρ' ∧ ∃ (v' : SV) (r' : Ros), z = .agg ⟨XI v' r'⟩ ∧ RosIn ρ' v' r' ∧ r'.p = dropT ro.p r.txn ∧ L' = []) := fun ρ2 x h1 h2 h3 => by
  have := put18_spec ρ2 v ro h1 x h2 true
  rwa [h3, putO_true, hnum] at this
 unfold Xz
 rw [e, e2]
 refine Zd Tryz.func122 rfl rfl rfl fun u R => ?_
 simp only [Zo, List.cons_append, List.nil_append]
 repeat' (first | (refine Zc (.func 36) ?_; refine qC rfl rfl (hri) ?_; rintro v ρ' L' hle ⟨rfl, rfl, rfl⟩ <;> (try simp only [kM, kN, kO])) | (refine Zc (.func 120) ?_; refine qC rfl rfl (hf) ?_; rintro v ρ' L' hle ⟨rfl, x, rfl, hx, hxp, ⟨hxl, hxs, hxm⟩, rfl⟩ <;> (try simp only [kM, kN, kO])) | (refine Zc (.func 160) ?_; refine qC rfl rfl ((taken8_spec _ x rv r k8)) ?_; rintro v ρ' L' hle ⟨rfl, rfl, rfl⟩ <;> (try simp only [kM, kN, kO])) | (refine Zc (.func 161) ?_; refine qC rfl rfl (hput _ x h hx hxp) ?_; rintro v ρ' L' hle ⟨hz1, v1, r1, rfl, hR1, hp1, rfl⟩ <;> (try simp only [kM, kN, kO])) | refine zV ?_ | intro _)
 exact qE (L' := []) ⟨hz1, v1, r1, rfl, hR1, hp1, rfl⟩
theorem take18_x (ρ : Hp) (v : SV) (ro : Ros) (h : RosIn ρ v ro) (hB : RosB ro.p) (rv : RV) (r : Rc) (hr : RcIn ρ rv r) (hok : ZU r = true) (k2 : 2 ≤ r.kind) (k7 : r.kind ≤ 7) {t : TxP} (hf0 : Xg ro.p r.txn = some t) (hp : r.prev = t.last) (hm : ¬ mayT t r = true) : Xz ρ v ro rv r := by
 have hri := Xe ρ rv r hr
 rw [hok] at hri
 have e := takeT_e ro.p r hok k2 (by omega)
 have e2 := takeT_p ro.p r hok k2 (by omega)
 have e3 : ownE (some t) r = 2 := (if_neg (fun c => c hp)).trans ((if_neg (by omega)).trans (if_neg hm))
 rw [hf0, e3] at e e2
 replace e2 : Xx ro.p r = ⟨0, []⟩ := e2
 have hf := find18_t ρ v ro h hB r.txn hf0
 unfold Xz
 rw [e, e2]
 refine Zd Tryz.func122 rfl rfl rfl fun u R => ?_
 simp only [Zo, List.cons_append, List.nil_append]
 repeat' (first | (refine Zc (.func 36) ?_; refine qC rfl rfl (hri) ?_; rintro v ρ' L' hle ⟨rfl, rfl, rfl⟩ <;> (try simp only [kM, kN, kO])) | (refine Zc (.func 120) ?_; refine qC rfl rfl (hf) ?_; rintro v ρ' L' hle ⟨rfl, x, rfl, hx, hxp, ⟨hxl, hxs, hxm⟩, rfl⟩ <;> (try simp only [kM, kN, kO])) | (refine Zc (.func 160) ?_; refine qC rfl rfl ((takenN_spec _ x rv r (by omega) k2 k7 (by rw [hxp]; exact hm))) ?_; rintro v ρ' L' hle ⟨rfl, rfl, rfl⟩ <;> (try simp only [kM, kN, kO])) | refine zV ?_ | intro _)
 exact qE (L' := []) ⟨Hp.le_refl _, Yw, ⟨0, []⟩, rfl, RosIn.z, rfl, rfl⟩
theorem take18_y (ρ : Hp) (v : SV) (ro : Ros) (h : RosIn ρ v ro) (hB : RosB ro.p) (rv : RV) (r : Rc) (hr : RcIn ρ rv r) (hok : ZU r = true) (k2 : 2 ≤ r.kind) (k7 : r.kind ≤ 7) {t : TxP} (hf0 : Xg ro.p r.txn = some t) (hp : r.prev = t.last) (hm : mayT t r = true) : Xz ρ v ro rv r := by
 have hri := Xe ρ rv r hr
 rw [hok] at hri
 have e := takeT_e ro.p r hok k2 (by omega)
 have e2 := takeT_p ro.p r hok k2 (by omega)
 have e3 : ownE (some t) r = 0 := (if_neg (fun c => c hp)).trans ((if_neg (by omega)).trans (if_pos hm))
 have e4 : ownP ro.p (some t) r = putT ro.p (XN t r) := if_neg (by omega)
 rw [hf0, e3] at e e2
 rw [if_pos rfl, e4] at e2
 have hf := find18_t ρ v ro h hB r.txn hf0
 have hput : ∀ ρ2 y, RosIn ρ2 v ro → Tx.In ρ2 y → y.p = XN t r → Spec Tryz.prog 161 [.agg ⟨XI v ro⟩, .agg ⟨Yk y⟩, .bool false] ρ2 [] (fun z ρ' L' => ρ2.le ρ' ∧ ∃ (v' : SV) (r' : Ros), z = .agg ⟨XI v' r'⟩ ∧ RosIn ρ' v' r' ∧ r'.p = putT ro.p (XN t r) ∧ L' = []) := fun ρ2 x h1 h2 h3 => by
  have := put18_spec ρ2 v ro h1 x h2 false
  rwa [h3, putO_false] at this
 unfold Xz
 rw [e, e2]
 refine Zd Tryz.func122 rfl rfl rfl fun u R => ?_
 simp only [Zo, List.cons_append, List.nil_append]
 repeat' (first | (refine Zc (.func 36) ?_; refine qC rfl rfl (hri) ?_; rintro v ρ' L' hle ⟨rfl, rfl, rfl⟩ <;> (try simp only [kM, kN, kO])) | (refine Zc (.func 120) ?_; refine qC rfl rfl (hf) ?_; rintro v ρ' L' hle ⟨rfl, x, rfl, hx, hxp, ⟨hxl, hxs, hxm⟩, rfl⟩ <;> (try simp only [kM, kN, kO])) | (refine Zc (.func 160) ?_; refine qC rfl rfl ((takenY_spec _ x hx hxs hxm rv r hr hok (by omega) k2 k7 (by rw [hxp]; exact hm))) ?_; rintro v ρ' L' hle ⟨hz1, y, rfl, hy, hyp, rfl⟩ <;> (try simp only [kM, kN, kO])) | (refine Zc (.func 161) ?_; refine qC rfl rfl (hput _ y (h.mono hz1) hy (by rw [hyp, hxp])) ?_; rintro v ρ' L' hle ⟨hz2, v1, r1, rfl, hR1, hp1, rfl⟩ <;> (try simp only [kM, kN, kO])) | refine zV ?_ | intro _)
 exact qE (L' := []) (hle := Hp.le_trans hz1 hz2) ⟨Hp.le_trans hz1 hz2, v1, r1, rfl, hR1, hp1, rfl⟩
theorem take18_spec (ρ : Hp) (v : SV) (ro : Ros) (h : RosIn ρ v ro) (hG : RosG ro.p) (rv : RV) (r : Rc) (hr : RcIn ρ rv r) : Xz ρ v ro rv r := by
 cases hok : ZU r
 ·exact take18_bad ρ v ro h rv r hr hok
 have hk := (Xp hok).kind
 by_cases k9 : r.kind = 9
 ·exact take18_9 ρ v ro h rv r hr hok k9
 by_cases k1 : r.kind = 1
 ·exact take18_1 ρ v ro h hG rv r hr hok k1
 cases hf : Xg ro.p r.txn with
 | none => exact take18_n ρ v ro h rv r hr hok (by omega) (by omega) hf
 | some t =>
  by_cases hp : r.prev = t.last
  ·by_cases k8 : r.kind = 8
   ·exact take18_8 ρ v ro h hG.rosB rv r hr hok k8 hf hp
   ·cases hm : mayT t r
    ·exact take18_x ρ v ro h hG.rosB rv r hr hok (by omega) (by omega) hf hp (by rw [hm]; exact Bool.false_ne_true)
    ·exact take18_y ρ v ro h hG.rosB rv r hr hok (by omega) (by omega) hf hp hm
  ·exact take18_p ρ v ro h hG.rosB rv r hr hok (by omega) (by omega) hf hp
end Go.Proofs.E
