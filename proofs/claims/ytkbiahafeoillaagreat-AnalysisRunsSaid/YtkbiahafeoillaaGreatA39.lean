/- Laws of analysis. Part 39 of 41. -/
import Derived.Test.YtkbiahafeoillaaGreatA38
namespace Go.Proofs.E
open Go
set_option linter.unusedVariables false
set_option linter.unusedSimpArgs false
set_option linter.unusedSectionVars false
set_option maxRecDepth 4000
set_option maxHeartbeats 1000000
attribute [local irreducible] Yl TL TC TE Spec Xb R1 Hp.le EnvLe TS TR YS Zk
theorem sameTxns_spec (ρ : Hp) (s s' : SV) (l m : List CkT) (h : AS ρ 5 XU s l) (h' : AS ρ 5 XU s' m) :
  Spec Tryz.prog 118 [.slice s.a s.n s.c, .slice s'.a s'.n s'.c] ρ [] (fun v ρ' L' => v = .bool (decide (l = m)) ∧ ρ' = ρ ∧ L' = []) := by
 have hl := h.at'.len
 have hm := h'.at'.len
 have hn := h.big
 refine Zd Tryz.func118 rfl rfl rfl fun u R => ?_
 simp only [Zo, List.cons_append, List.nil_append]
 by_cases hne : s.n = s'.n
 ·repeat' (first | refine zV ?_ | intro _)
  refine Zq [(0, _), (1, _)] (fun (ζ : (Nat)) => [(5, .int .i64 ζ), (4, .bool false)]) (fun (ζ : (Nat)) => ρ) (fun (ζ : (Nat)) => []) (fun (ζ : (Nat)) => ζ ≤ s.n ∧ l.take ζ = m.take ζ) (fun (ζ : (Nat)) => s.n - ζ) (0) (⟨Nat.zero_le _, rfl⟩) Ze Ze rfl tk ?_
  rintro k hI
  try simp only [List.cons_append, List.nil_append, List.append_assoc, List.append_eq] at hI ⊢
  try dsimp only at hI ⊢
  obtain ⟨hk, hI⟩ := hI
  by_cases hlt : k < s.n
  ·obtain ⟨b, off, C, T, fr, e1, hb, hfit, hc⟩ := h.at'.get (show k < l.length by omega)
   obtain ⟨b2, off2, C2, T2, fr2, e2, hb2, hfit2, hc2⟩ := h'.at'.get (show k < m.length by omega)
   have ht1 := List.take_succ_eq_append_getElem (show k < l.length by omega)
   have ht2 := List.take_succ_eq_append_getElem (show k < m.length by omega)
   have hf : l = m → l[k]'(by omega) = m[k]'(by omega) := fun e => by subst e; rfl
   generalize l[k]'(by omega) = x at *
   generalize m[k]'(by omega) = y at *
   rw [e1, e2]
   by_cases c : x = y
   ·have hd : decide (x = y) = true := decide_eq_true c
    repeat' (first | refine zV ?_ | intro _)
    refine Zu (Zk _ _ _) Zp ?_
    all_goals (refine Zx 0 ?_; refine Zz ?_; refine Zx 1 ?_; refine rIa 2 ?_; refine ZQ 3 ?_; refine Zx 4 ?_; refine Zx 5 ?_; refine rIa 6 ?_; refine ZQ 7 ?_; refine rCm 8 ?_; refine Zv ?_)
    all_goals (repeat' (first | refine zV ?_ | intro _))
    all_goals rw [← e1, ← e2]
    all_goals refine Zg (k + 1) (⟨hlt, by rw [ht1, ht2, hI, c]⟩) Ze Ze rfl tk inferInstance (by first | omega | (dsimp only; omega))
   ·have hd : decide (x = y) = false := decide_eq_false c
    rw [decide_eq_false (fun e => c (hf e))]
    repeat' (first | refine zV ?_ | intro _)
    refine Zu (Zk _ _ _) Zp ?_
    all_goals (refine Zx 0 ?_; refine Zz ?_; refine Zx 1 ?_; refine rIa 2 ?_; refine ZQ 3 ?_; refine Zx 4 ?_; refine Zx 5 ?_; refine rIa 6 ?_; refine ZQ 7 ?_; refine rCm 8 ?_; refine Zv ?_)
    all_goals (repeat' (first | refine zV ?_ | intro _))
    all_goals exact qE (L' := []) ⟨rfl, rfl, rfl⟩
  ·rw [List.take_of_length_le (by omega), List.take_of_length_le (by omega)] at hI
   rw [decide_eq_true hI]
   repeat' (first | refine zV ?_ | intro _)
   exact qE (L' := []) ⟨rfl, rfl, rfl⟩
 ·rw [decide_eq_false (fun e : l = m => hne (by rw [← hl, ← hm, e]))]
  repeat' (first | refine zV ?_ | intro _)
  exact qE (L' := []) ⟨rfl, rfl, rfl⟩
abbrev ReadPost (ρ : Hp) (o : Option AnP) : Value → Hp → SH → Prop :=
 fun z ρ' L' => ρ.le ρ' ∧ ∃ d' : AnD, z = .tuple ⟨[.agg ⟨anV d'⟩, .bool o.isSome]⟩ ∧ AnIn ρ' d' ∧ (∀ q, o = some q → d'.p = q) ∧ L' = []
abbrev Read23 (ρ : Hp) (d : AnD) (rv : RV) (r : Rc) (o : Option AnP) : Prop := Spec Tryz.prog 66 [.agg ⟨anV d⟩, .agg ⟨Yx rv r⟩] ρ [] (ReadPost ρ o)
theorem read23_at (ρ : Hp) (d : AnD) (h : AnIn ρ d) (rv : RV) (r : Rc) (hr : RcIn ρ rv r) (hp : d.next = d.master) : Read23 ρ d rv r (atA d.p r) := by
 have hK := ckpt18_spec ρ d.rv d.ro h.r
 have hEq := fun ρ1 s (hle : ρ.le ρ1) (hs : AS ρ1 5 XU s (d.ro.txns.map ckOf)) => sameTxns_spec ρ1 rv.t s r.txns (d.ro.txns.map ckOf) (hr.t.mono hle) hs
 unfold Read23 atA
 dsimp only
 rw [← ckTs]
 refine Zd Tryz.func66 rfl rfl rfl fun u R => ?_
 simp only [Zo, List.cons_append, List.nil_append]
 by_cases k9 : r.kind = 9
 case' neg =>
  rw [if_pos (.inl k9)]
  repeat' (first | refine zV ?_ | intro _)
  refine Zu (Zk _ _ _) Zp ?_
  all_goals (refine ZN 0 ?_; refine ZQ 1 ?_; refine rCm 2 ?_; refine Zx 3 ?_; (first | refine Zb 4 ?_ | refine Za 4 ?_ | refine ZE 4 ?_); (first | refine Zb 5 ?_ | refine Za 5 ?_ | refine ZL 5 ?_); (first | refine Zb 6 ?_ | refine Za 6 ?_ | refine ZE 6 ?_); (first | refine Zb 7 ?_ | refine Za 7 ?_ | refine ZE 7 ?_); (first | refine Zb 8 ?_ | refine Za 8 ?_ | refine ZL 8 ?_); (first | refine Zb 9 ?_ | refine Za 9 ?_ | refine Yg 9 ?_); refine Yj 10 ?_; refine Zx 11 ?_; (first | refine Zb 12 ?_ | refine Za 12 ?_ | refine ZE 12 ?_); (first | refine Zb 13 ?_ | refine Za 13 ?_ | refine ZL 13 ?_); (first | refine Zb 14 ?_ | refine Za 14 ?_ | refine ZE 14 ?_); (first | refine Zb 15 ?_ | refine Za 15 ?_ | refine ZL 15 ?_))
  all_goals (first | refine Zb 16 ?_ | refine Za 16 ?_ | (refine Zj (i := 16) ?_; ((try refine Zh ?_); (first | (refine ZF ?_; try intro _)) <;> ((try simp only [kM, kN, kO]); refine Zf ?_; refine Zi ?_))))
  all_goals (first | refine Zb 17 ?_ | refine Za 17 ?_ | (refine Zj (i := 17) ?_; ((try refine Zh ?_); (first | (refine ZF ?_; try intro _)) <;> ((try simp only [kM, kN, kO]); refine Zf ?_; refine Zi ?_))))
  all_goals (refine Zz ?_; (first | refine Zb 18 ?_ | refine Za 18 ?_ | refine wUn 18 ?_); refine Yj 19 ?_; refine Zv ?_)
  all_goals (repeat' (first | refine zV ?_ | intro _))
  all_goals exact qE (L' := []) ⟨Hp.le_refl _, d, rfl, h, fun q e => absurd e (by simp), rfl⟩
 by_cases c : r.nextTxn < d.ro.next
 case' pos =>
  rw [if_pos (.inr (.inl c))]
  repeat' (first | refine zV ?_ | intro _)
  refine Zu (Zk _ _ _) Zp ?_
  all_goals (refine ZN 0 ?_; refine ZQ 1 ?_; refine rCm 2 ?_; refine Zx 3 ?_; (first | refine Zb 4 ?_ | refine Za 4 ?_ | refine ZE 4 ?_); (first | refine Zb 5 ?_ | refine Za 5 ?_ | refine ZL 5 ?_); (first | refine Zb 6 ?_ | refine Za 6 ?_ | refine ZE 6 ?_); (first | refine Zb 7 ?_ | refine Za 7 ?_ | refine ZE 7 ?_); (first | refine Zb 8 ?_ | refine Za 8 ?_ | refine ZL 8 ?_); (first | refine Zb 9 ?_ | refine Za 9 ?_ | refine Yg 9 ?_); refine Yj 10 ?_; refine Zx 11 ?_; (first | refine Zb 12 ?_ | refine Za 12 ?_ | refine ZE 12 ?_); (first | refine Zb 13 ?_ | refine Za 13 ?_ | refine ZL 13 ?_); (first | refine Zb 14 ?_ | refine Za 14 ?_ | refine ZE 14 ?_); (first | refine Zb 15 ?_ | refine Za 15 ?_ | refine ZL 15 ?_))
  all_goals (first | refine Zb 16 ?_ | refine Za 16 ?_ | (refine Zj (i := 16) ?_; ((try refine Zh ?_); (first | (refine ZF ?_; try intro _)) <;> ((try simp only [kM, kN, kO]); refine Zf ?_; refine Zi ?_))))
  all_goals (first | refine Zb 17 ?_ | refine Za 17 ?_ | (refine Zj (i := 17) ?_; ((try refine Zh ?_); (first | (refine ZF ?_; try intro _)) <;> ((try simp only [kM, kN, kO]); refine Zf ?_; refine Zi ?_))))
  all_goals (refine Zz ?_; (first | refine Zb 18 ?_ | refine Za 18 ?_ | refine wUn 18 ?_); refine Yj 19 ?_; refine Zv ?_)
  all_goals (repeat' (first | refine zV ?_ | intro _))
  all_goals exact qE (L' := []) ⟨Hp.le_refl _, d, rfl, h, fun q e => absurd e (by simp), rfl⟩
 by_cases ct : r.txns = d.ro.txns.map ckOf
 case' neg =>
  rw [if_pos (.inr (.inr ct))]
  simp only [decide_eq_false ct] at hEq
  repeat' (first | refine zV ?_ | intro _)
  refine Zu (Zk _ _ _) Zp ?_
  all_goals (refine ZN 0 ?_; refine ZQ 1 ?_; refine rCm 2 ?_; refine Zx 3 ?_; (first | refine Zb 4 ?_ | refine Za 4 ?_ | refine ZE 4 ?_); (first | refine Zb 5 ?_ | refine Za 5 ?_ | refine ZL 5 ?_); (first | refine Zb 6 ?_ | refine Za 6 ?_ | refine ZE 6 ?_); (first | refine Zb 7 ?_ | refine Za 7 ?_ | refine ZE 7 ?_); (first | refine Zb 8 ?_ | refine Za 8 ?_ | refine ZL 8 ?_); (first | refine Zb 9 ?_ | refine Za 9 ?_ | refine Yg 9 ?_); refine Yj 10 ?_; refine Zx 11 ?_; (first | refine Zb 12 ?_ | refine Za 12 ?_ | refine ZE 12 ?_); (first | refine Zb 13 ?_ | refine Za 13 ?_ | refine ZL 13 ?_); (first | refine Zb 14 ?_ | refine Za 14 ?_ | refine ZE 14 ?_); (first | refine Zb 15 ?_ | refine Za 15 ?_ | refine ZL 15 ?_))
  all_goals (first | refine Zb 16 ?_ | refine Za 16 ?_ | (refine Zj (i := 16) ?_; ((try refine Zh ?_); (first | (refine Zc (.func 119) ?_; refine qC rfl rfl (hK) ?_; rintro v ρ' L' hle ⟨hz1, s1, rfl, hs1, rfl⟩ <;> (try simp only [kM, kN, kO])) | (refine ZF ?_; try intro _)) <;> ((try simp only [kM, kN, kO]); refine Zf ?_; refine Zi ?_))))
  all_goals (first | refine Zb 17 ?_ | refine Za 17 ?_ | (refine Zj (i := 17) ?_; ((try refine Zh ?_); (first | (refine Zc (.func 118) ?_; refine qC rfl rfl (hEq _ s1 hz1 hs1) ?_; rintro v ρ' L' hle ⟨rfl, rfl, rfl⟩ <;> (try simp only [kM, kN, kO])) | (refine ZF ?_; try intro _)) <;> ((try simp only [kM, kN, kO]); refine Zf ?_; refine Zi ?_))))
  all_goals (refine Zz ?_; (first | refine Zb 18 ?_ | refine Za 18 ?_ | refine wUn 18 ?_); refine Yj 19 ?_; refine Zv ?_)
  all_goals (repeat' (first | refine zV ?_ | intro _))
  all_goals exact qE (L' := []) ⟨hz1, d, rfl, h.mono hz1, fun q e => absurd e (by simp), rfl⟩
 rw [if_neg (by
  rintro (e | e | e)
  ·exact e k9
  ·exact c e
  ·exact e ct)]
 simp only [decide_eq_true ct] at hEq
 repeat' (first | refine zV ?_ | intro _)
 refine Zu (Zk _ _ _) Zp ?_
 all_goals (refine ZN 0 ?_; refine ZQ 1 ?_; refine rCm 2 ?_; refine Zx 3 ?_; (first | refine Zb 4 ?_ | refine Za 4 ?_ | refine ZE 4 ?_); (first | refine Zb 5 ?_ | refine Za 5 ?_ | refine ZL 5 ?_); (first | refine Zb 6 ?_ | refine Za 6 ?_ | refine ZE 6 ?_); (first | refine Zb 7 ?_ | refine Za 7 ?_ | refine ZE 7 ?_); (first | refine Zb 8 ?_ | refine Za 8 ?_ | refine ZL 8 ?_); (first | refine Zb 9 ?_ | refine Za 9 ?_ | refine Yg 9 ?_); refine Yj 10 ?_; refine Zx 11 ?_; (first | refine Zb 12 ?_ | refine Za 12 ?_ | refine ZE 12 ?_); (first | refine Zb 13 ?_ | refine Za 13 ?_ | refine ZL 13 ?_); (first | refine Zb 14 ?_ | refine Za 14 ?_ | refine ZE 14 ?_); (first | refine Zb 15 ?_ | refine Za 15 ?_ | refine ZL 15 ?_))
 all_goals (first | refine Zb 16 ?_ | refine Za 16 ?_ | (refine Zj (i := 16) ?_; ((try refine Zh ?_); (first | (refine Zc (.func 119) ?_; refine qC rfl rfl (hK) ?_; rintro v ρ' L' hle ⟨hz1, s1, rfl, hs1, rfl⟩ <;> (try simp only [kM, kN, kO])) | (refine ZF ?_; try intro _)) <;> ((try simp only [kM, kN, kO]); refine Zf ?_; refine Zi ?_))))
 all_goals (first | refine Zb 17 ?_ | refine Za 17 ?_ | (refine Zj (i := 17) ?_; ((try refine Zh ?_); (first | (refine Zc (.func 118) ?_; refine qC rfl rfl (hEq _ s1 hz1 hs1) ?_; rintro v ρ' L' hle ⟨rfl, rfl, rfl⟩ <;> (try simp only [kM, kN, kO])) | (refine ZF ?_; try intro _)) <;> ((try simp only [kM, kN, kO]); refine Zf ?_; refine Zi ?_))))
 all_goals (refine Zz ?_; (first | refine Zb 18 ?_ | refine Za 18 ?_ | refine wUn 18 ?_); refine Yj 19 ?_; refine Zv ?_)
 all_goals (repeat' (first | refine zV ?_ | intro _))
 all_goals exact qE (L' := []) ⟨hz1, { d with ro := ⟨r.nextTxn, d.ro.txns⟩, dv := rv.d, dirty := r.dirty }, rfl, ⟨⟨h.r.at'.mono hz1, fun x hx => (h.r.tx x hx).mono hz1⟩, hr.d.mono hz1⟩, fun q e => by cases e; rfl, rfl⟩
theorem take18_ok {p : Xh} {r : Rc} (hok : ZU r = true) : XY p r = YI p r ∧ Xx p r = if YI p r = 0 then Xn p r else ⟨0, []⟩ := by
 have e : XY p r = YI p r := by unfold XY; rw [hok]; rfl
 exact ⟨e, by unfold Xx; rw [e]⟩
theorem read23_ahead (ρ : Hp) (d : AnD) (h : AnIn ρ d) (rv : RV) (r : Rc) (hr : RcIn ρ rv r) (hG : RosG d.ro.p) (hok : ZU r = true) (hp : d.next < d.master) : Read23 ρ d rv r (aheadA d.p r) := by
 have hf := Xp hok
 unfold Read23 aheadA tkA
 dsimp only
 refine Zd Tryz.func66 rfl rfl rfl fun u R => ?_
 simp only [Zo, List.cons_append, List.nil_append]
 by_cases k1 : r.kind = 1
 ·rw [if_pos k1]
  have hF := find18_spec ρ d.rv d.ro h.r r.txn
  by_cases c : r.txn < d.ro.next
  ·rw [if_pos c]
   repeat' (first | (refine Zc (.func 120) ?_; refine qC rfl rfl (hF) ?_; rintro v ρ' L' hle ⟨rfl, x, b, rfl, hx, _, rfl⟩ <;> (try simp only [kM, kN, kO])) | refine zV ?_ | intro _)
   exact qE (L' := []) ⟨Hp.le_refl _, d, rfl, h, fun q e => absurd e (by simp), rfl⟩
  rw [if_neg c]
  have hG2 : RosG ⟨r.txn, d.ro.p.txns⟩ := hG.more (by show d.ro.next ≤ _; omega) hf.txn.2
  have hin : RosIn ρ d.rv ⟨r.txn, d.ro.txns⟩ := ⟨h.r.at', h.r.tx⟩
  have hT := take18_spec ρ d.rv ⟨r.txn, d.ro.txns⟩ hin hG2 rv r hr
  unfold Xz at hT
  rw [(take18_ok hok).1, (take18_ok hok).2] at hT
  try dsimp only at hT
  by_cases he : YI ⟨r.txn, d.ro.txns.map Tx.p⟩ r = 0
  ·simp only [he, if_true] at hT ⊢
   repeat' (first | (refine Zc (.func 120) ?_; refine qC rfl rfl (hF) ?_; rintro v ρ' L' hle ⟨rfl, x, b, rfl, hx, _, rfl⟩ <;> (try simp only [kM, kN, kO])) | (refine Zc (.func 122) ?_; refine qC rfl rfl (hT) ?_; rintro v ρ' L' hle ⟨hz1, v1, r1, rfl, hR1, hp1, rfl⟩ <;> (try simp only [kM, kN, kO])) | refine zV ?_ | intro _)
   exact qE (L' := []) ⟨hz1, { d with rv := v1, ro := r1 }, rfl, ⟨hR1, h.d.mono hz1⟩, fun q e => by cases e; rw [← hp1], rfl⟩
  ·simp only [he, if_false] at hT ⊢
   generalize YI ⟨r.txn, d.ro.txns.map Tx.p⟩ r = te at *
   repeat' (first | (refine Zc (.func 120) ?_; refine qC rfl rfl (hF) ?_; rintro v ρ' L' hle ⟨rfl, x, b, rfl, hx, _, rfl⟩ <;> (try simp only [kM, kN, kO])) | (refine Zc (.func 122) ?_; refine qC rfl rfl (hT) ?_; rintro v ρ' L' hle ⟨hz1, v1, r1, rfl, hR1, hp1, rfl⟩ <;> (try simp only [kM, kN, kO])) | refine zV ?_ | intro _)
   exact qE (L' := []) ⟨hz1, { d with rv := v1, ro := r1 }, rfl, ⟨hR1, h.d.mono hz1⟩, fun q e => absurd e (by simp), rfl⟩
 rw [if_neg k1]
 cases hfd : Xg d.ro.p r.txn with
 | none =>
  rw [if_pos rfl]
  have hF := find18_none ρ d.rv d.ro h.r r.txn hfd
  repeat' (first | (refine Zc (.func 120) ?_; refine qC rfl rfl (hF) ?_; rintro v ρ' L' hle ⟨rfl, rfl, rfl⟩ <;> (try simp only [kM, kN, kO])) | refine zV ?_ | intro _)
  exact qE (L' := []) ⟨Hp.le_refl _, d, rfl, h, fun q e => by cases e; rfl, rfl⟩
 | some t =>
  rw [if_neg (by simp)]
  have hF := find18_some ρ d.rv d.ro h.r r.txn hfd
  have hT := take18_spec ρ d.rv d.ro h.r hG rv r hr
  unfold Xz at hT
  rw [(take18_ok hok).1, (take18_ok hok).2] at hT
  by_cases he : YI d.ro.p r = 0
  ·simp only [he, if_true] at hT ⊢
   repeat' (first | (refine Zc (.func 120) ?_; refine qC rfl rfl (hF) ?_; rintro v ρ' L' hle ⟨rfl, x, rfl, hx, hxp, rfl⟩ <;> (try simp only [kM, kN, kO])) | (refine Zc (.func 122) ?_; refine qC rfl rfl (hT) ?_; rintro v ρ' L' hle ⟨hz1, v1, r1, rfl, hR1, hp1, rfl⟩ <;> (try simp only [kM, kN, kO])) | refine zV ?_ | intro _)
   exact qE (L' := []) ⟨hz1, { d with rv := v1, ro := r1 }, rfl, ⟨hR1, h.d.mono hz1⟩, fun q e => by cases e; rw [← hp1], rfl⟩
  ·simp only [he, if_false] at hT ⊢
   generalize YI d.ro.p r = te at *
   repeat' (first | (refine Zc (.func 120) ?_; refine qC rfl rfl (hF) ?_; rintro v ρ' L' hle ⟨rfl, x, rfl, hx, hxp, rfl⟩ <;> (try simp only [kM, kN, kO])) | (refine Zc (.func 122) ?_; refine qC rfl rfl (hT) ?_; rintro v ρ' L' hle ⟨hz1, v1, r1, rfl, hR1, hp1, rfl⟩ <;> (try simp only [kM, kN, kO])) | refine zV ?_ | intro _)
   exact qE (L' := []) ⟨hz1, { d with rv := v1, ro := r1 }, rfl, ⟨hR1, h.d.mono hz1⟩, fun q e => absurd e (by simp), rfl⟩
theorem read23_beh (ρ : Hp) (d : AnD) (h : AnIn ρ d) (rv : RV) (r : Rc) (hr : RcIn ρ rv r) (hG : RosG d.ro.p) (ht : Xs d.dirty = true) (hok : ZU r = true) (hp : d.master < d.next) : Read23 ρ d rv r (behA d.p r) := by
 have hTo := touch22_spec ρ d.dv d.dirty h.d rv r hr
 rw [(touch_same ht hok).2] at hTo
 have hT := fun ρ1 (hle : ρ.le ρ1) => take18_spec ρ1 d.rv d.ro (h.r.mono hle) hG rv r (hr.mono hle)
 unfold Xz at hT
 rw [(take18_ok hok).1, (take18_ok hok).2] at hT
 unfold Read23 behA tkA
 dsimp only
 refine Zd Tryz.func66 rfl rfl rfl fun u R => ?_
 simp only [Zo, List.cons_append, List.nil_append]
 by_cases he : YI d.ro.p r = 0
 ·simp only [he, if_true] at hT ⊢
  repeat' (first | (refine Zc (.func 121) ?_; refine qC rfl rfl (hTo) ?_; rintro v ρ' L' hle ⟨hz1, s1, rfl, hs1, rfl⟩ <;> (try simp only [kM, kN, kO])) | (refine Zc (.func 122) ?_; refine qC rfl rfl (hT _ hz1) ?_; rintro v ρ' L' hle ⟨hz2, v1, r1, rfl, hR1, hp1, rfl⟩ <;> (try simp only [kM, kN, kO])) | refine zV ?_ | intro _)
  exact qE (L' := []) (hle := Hp.le_trans hz1 hz2) ⟨Hp.le_trans hz1 hz2, { d with rv := v1, ro := r1, dv := s1, dirty := XW r d.dirty }, rfl, ⟨hR1, hs1.mono hz2⟩, fun q e => by cases e; rw [← hp1], rfl⟩
 ·simp only [he, if_false] at hT ⊢
  generalize YI d.ro.p r = te at *
  repeat' (first | (refine Zc (.func 121) ?_; refine qC rfl rfl (hTo) ?_; rintro v ρ' L' hle ⟨hz1, s1, rfl, hs1, rfl⟩ <;> (try simp only [kM, kN, kO])) | (refine Zc (.func 122) ?_; refine qC rfl rfl (hT _ hz1) ?_; rintro v ρ' L' hle ⟨hz2, v1, r1, rfl, hR1, hp1, rfl⟩ <;> (try simp only [kM, kN, kO])) | refine zV ?_ | intro _)
  exact qE (L' := []) (hle := Hp.le_trans hz1 hz2) ⟨Hp.le_trans hz1 hz2, { d with rv := v1, ro := r1, dv := s1, dirty := XW r d.dirty }, rfl, ⟨hR1, hs1.mono hz2⟩, fun q e => absurd e (by simp), rfl⟩
theorem read23_spec (ρ : Hp) (d : AnD) (h : AnIn ρ d) (rv : RV) (r : Rc) (hr : RcIn ρ rv r) (hG : RosG d.ro.p) (ht : Xs d.dirty = true) (hok : ZU r = true) : Read23 ρ d rv r (WJ d.p r) := by
 rcases Nat.lt_trichotomy d.next d.master with hc | hc | hc
 ·rw [readA_ahead (a := d.p) hc]; exact read23_ahead ρ d h rv r hr hG hok hc
 ·rw [readA_at (a := d.p) hc]; exact read23_at ρ d h rv r hr hc
 ·rw [readA_beh (a := d.p) hc]; exact read23_beh ρ d h rv r hr hG ht hok hc
theorem step23_spec (ρ : Hp) (d : AnD) (h : AnIn ρ d) (rv : RV) (r : Rc) (hr : RcIn ρ rv r) (h1 : Yc d.p = true) : Spec Tryz.prog 32 [.agg ⟨anV d⟩, .agg ⟨Yx rv r⟩] ρ [] (XD ρ d.p r) := by
 have hK := Xe ρ rv r hr
 obtain ⟨f1, f2, f3, _⟩ := rightA_iff.1 h1
 have fin : ∀ e : Int, YN d.p r = e → e ≠ 0 → Wb d.p r = zeroA := fun e h1 h2 => by unfold Wb; rw [h1, if_neg h2]
 unfold XD
 refine Zd Tryz.func32 rfl rfl rfl fun u R => ?_
 simp only [Zo, List.cons_append, List.nil_append]
 by_cases hn : d.next = d.fin
 case' pos =>
  have e : YN d.p r = 2 := by unfold YN; rw [h1, if_pos rfl, if_pos hn]
  have e2 := fin _ e (by decide)
  rw [e, e2]
  repeat' (first | refine zV ?_ | intro _)
  exact qE (L' := []) ⟨Hp.le_refl _, Wn, rfl, YT, rfl, rfl⟩
 cases hok : ZU r
 case' false =>
  have e : YN d.p r = 220 := by unfold YN; rw [h1, if_pos rfl, if_neg hn, hok]; rfl
  have e2 := fin _ e (by decide)
  rw [hok] at hK
  rw [e, e2]
  repeat' (first | (refine Zc (.func 36) ?_; refine qC rfl rfl (hK) ?_; rintro v ρ' L' hle ⟨rfl, rfl, rfl⟩ <;> (try simp only [kM, kN, kO])) | refine zV ?_ | intro _)
  exact qE (L' := []) ⟨Hp.le_refl _, Wn, rfl, YT, rfl, rfl⟩
 rw [hok] at hK
 by_cases hl : r.lsn = d.next
 case' neg =>
  have e : YN d.p r = 2 := by unfold YN; rw [h1, if_pos rfl, if_neg hn, hok, if_pos rfl, if_pos hl]
  have e2 := fin _ e (by decide)
  rw [e, e2]
  repeat' (first | (refine Zc (.func 36) ?_; refine qC rfl rfl (hK) ?_; rintro v ρ' L' hle ⟨rfl, rfl, rfl⟩ <;> (try simp only [kM, kN, kO])) | refine zV ?_ | intro _)
  exact qE (L' := []) ⟨Hp.le_refl _, Wn, rfl, YT, rfl, rfl⟩
 have hRd := read23_spec ρ d h rv r hr (rosG_iff.1 f2) f3 hok
 unfold Read23 at hRd
 obtain ⟨e1, e2⟩ := stepE_on (a := d.p) h1 hn hok hl
 cases ho : WJ d.p r with
 | none =>
  rw [onA_none ho] at e1 e2
  replace e1 : YN d.p r = 331 := e1
  replace e2 : Wb d.p r = zeroA := e2
  rw [ho] at hRd
  have hRd2 : Spec Tryz.prog 66 [.agg ⟨anV d⟩, .agg ⟨Yx rv r⟩] ρ [] (fun z ρ' L' => ρ.le ρ' ∧ ∃ d' : AnD, z = .tuple ⟨[.agg ⟨anV d'⟩, .bool false]⟩ ∧ L' = []) := by
   refine hRd.mono ?_
   rintro z ρ' L' _ ⟨g1, d', g2, g3, g4, g5⟩
   exact ⟨g1, d', g2, g5⟩
  rw [e1, e2]
  repeat' (first | (refine Zc (.func 36) ?_; refine qC rfl rfl (hK) ?_; rintro v ρ' L' hle ⟨rfl, rfl, rfl⟩ <;> (try simp only [kM, kN, kO])) | (refine Zc (.func 66) ?_; refine qC rfl rfl (hRd2) ?_; rintro v ρ' L' hle ⟨hz1, d1, rfl, rfl⟩ <;> (try simp only [kM, kN, kO])) | refine zV ?_ | intro _)
  exact qE (L' := []) ⟨hz1, Wn, rfl, YT, rfl, rfl⟩
 | some q =>
  rw [onA_some ho] at e1 e2
  have hsame := readA_same ho
  unfold spansB at f1
  rw [decide_eq_true_eq] at f1
  have hnb : d.next ≤ 1099511627776 := by
   have g1 : d.p.next = d.next := rfl
   omega
  rw [ho] at hRd
  have hRd2 : Spec Tryz.prog 66 [.agg ⟨anV d⟩, .agg ⟨Yx rv r⟩] ρ [] (fun z ρ' L' => ρ.le ρ' ∧ ∃ d' : AnD, z = .tuple ⟨[.agg ⟨anV d'⟩, .bool true]⟩ ∧ AnIn ρ' d' ∧ d'.next ≤ 1099511627776 ∧ ({ d' with next := d'.next + 1 } : AnD).p = { q with next := q.next + 1 } ∧ L' = []) := by
   refine hRd.mono ?_
   rintro z ρ' L' _ ⟨g1, d', g2, g3, g4, g5⟩
   have g6 := g4 q rfl
   refine ⟨g1, d', g2, g3, ?_, by rw [← g6], g5⟩
   have g7 : d'.p.next = d.p.next := by rw [g6]; exact hsame.2.2.2
   have g8 : d'.next = d.next := g7
   omega
  have hR3 : ∀ (ρ1 : Hp) (d1 : AnD), AnIn ρ1 d1 → ({ d1 with next := d1.next + 1 } : AnD).p = { q with next := q.next + 1 } → Spec Tryz.prog 24 [.agg ⟨[.int .u64 d1.base, .int .u64 d1.master, .int .u64 d1.fin, .int .u64 ((d1.next : Int) + 1), .int .i64 d1.ro.next, .slice d1.rv.a d1.rv.n d1.rv.c, .slice d1.dv.a d1.dv.n d1.dv.c]⟩] ρ1 [] (fun z ρ' L' => z = .bool (Yc { q with next := q.next + 1 }) ∧ ρ' = ρ1 ∧ L' = []) := fun ρ1 d1 g1 g2 => by
   have := WK ρ1 { d1 with next := d1.next + 1 } ⟨g1.r, g1.d⟩
   rw [g2] at this
   exact this
  cases hb : Yc { q with next := q.next + 1 }
  all_goals (
   rw [hb] at e1 e2 hR3
   simp only [if_true, Bool.false_eq_true, if_false, Option.isSome_some, Option.isSome_none, Option.getD_some, Option.getD_none] at e1 e2
   rw [e1, e2])
  all_goals (repeat' (first | (refine Zc (.func 36) ?_; refine qC rfl rfl (hK) ?_; rintro v ρ' L' hle ⟨rfl, rfl, rfl⟩ <;> (try simp only [kM, kN, kO])) | (refine Zc (.func 66) ?_; refine qC rfl rfl (hRd2) ?_; rintro v ρ' L' hle ⟨hz1, d1, rfl, hd1, hn1, hp1, rfl⟩ <;> (try simp only [kM, kN, kO])) | (refine Zc (.func 24) ?_; refine qC rfl rfl (hR3 _ d1 hd1 hp1) ?_; rintro v ρ' L' hle ⟨rfl, rfl, rfl⟩ <;> (try simp only [kM, kN, kO])) | refine zV ?_ | intro _))
  all_goals first
   | exact qE (L' := []) ⟨hz1, Wn, rfl, YT, rfl, rfl⟩
   | exact qE (L' := []) ⟨hz1, { d1 with next := d1.next + 1 }, rfl, ⟨hd1.r, hd1.d⟩, hp1, rfl⟩
theorem first23_spec (ρ : Hp) (d : AnD) (h : AnIn ρ d) : Spec Tryz.prog 33 [.agg ⟨anV d⟩] ρ [] (fun z ρ' L' => z = .int .u64 (firstN d.p : Nat) ∧ ρ' = ρ ∧ L' = []) := by
 have hl := h.d.at'.len
 have hA := h.d.at'
 have hb := h.d.big
 unfold firstN leastN
 dsimp only
 generalize hq : (d.dirty.map Yq.since).foldl min d.fin = q
 refine Zd Tryz.func33 rfl rfl rfl fun u R => ?_
 simp only [Zo, List.cons_append, List.nil_append]
 repeat' (first | refine zV ?_ | intro _)
 rename_i b1
 refine Zq [(1, _), (2, _)] (fun (ζ : (Nat) × (Nat)) => [(4, .int .i64 ζ.1), (3, .int .u64 ζ.2)]) (fun (ζ : (Nat) × (Nat)) => ρ) (fun (ζ : (Nat) × (Nat)) => [anC b1 d]) (fun (ζ : (Nat) × (Nat)) => ζ.1 ≤ d.dv.n ∧ ((d.dirty.drop ζ.1).map Yq.since).foldl min ζ.2 = q) (fun (ζ : (Nat) × (Nat)) => d.dv.n - ζ.1) ((0, d.fin)) (⟨Nat.zero_le _, hq⟩) Ze Ze rfl tk ?_
 rintro ⟨k, m⟩ hI
 try simp only [List.cons_append, List.nil_append, List.append_assoc, List.append_eq] at hI ⊢
 try dsimp only at hI ⊢
 obtain ⟨hk, hI⟩ := hI
 by_cases hlt : k < d.dv.n
 ·obtain ⟨b, off, C, T, fr, e1, hb1, hfit, hc⟩ := hA.get (show k < d.dirty.length by omega)
  rw [List.drop_eq_getElem_cons (show k < d.dirty.length by omega), List.map_cons, List.foldl_cons] at hI
  generalize d.dirty[k]'(by omega) = x at *
  have hx1 : C[off + k * 2 + 1]? = some (.int .u64 x.since) := cell_atQ hc rfl
  (simp only [anC, anV]; rw [e1])
  by_cases c : x.since < m
  ·have hmn : min m x.since = x.since := by omega
   rw [hmn] at hI
   repeat' (first | refine zV ?_ | intro _)
   rw [← e1]
   refine Zg (k + 1, x.since) (⟨hlt, hI⟩) Ze Ze rfl tk inferInstance (by first | omega | (dsimp only; omega))
  ·have hmn : min m x.since = m := by omega
   rw [hmn] at hI
   repeat' (first | refine zV ?_ | intro _)
   rw [← e1]
   refine Zg (k + 1, m) (⟨hlt, hI⟩) Ze Ze rfl tk inferInstance (by first | omega | (dsimp only; omega))
 ·rw [List.drop_of_length_le (by omega), List.map_nil, List.foldl_nil] at hI
  subst hI
  repeat' (first | refine zV ?_ | intro _)
  exact qE (L' := []) ⟨rfl, rfl, rfl⟩
def wIm : Im := ⟨5, nilCV, ztC, nilCV, ztC⟩
def wr1 : Rc := ⟨1, 1, 1, 0, 0, [], [], 0, [], []⟩
def wr2 : Rc := ⟨2, 2, 1, 1, 0, [wIm], [], 0, [], []⟩
def wA3 : AnP := ⟨1, 0, 3, 3, ⟨2, [⟨1, 1, 1, 2, 2, [⟨2, 1⟩], []⟩]⟩, [⟨5, 2⟩]⟩
theorem wA_run : runPE (newA 1 0 3) [wr1, wr2] = 0 ∧ runPP (newA 1 0 3) [wr1, wr2] = wA3 ∧ Yc (newA 1 0 3) = true ∧ Yc wA3 = true ∧ firstN wA3 = 2 := by decide +kernel
theorem change23_spec (ρ : Hp) : Spec Tryz.prog 57 [.int .u64 2, .int .u64 1, .int .i64 5] ρ [] (fun z ρ' L' => ρ.le ρ' ∧ ∃ bs : Nat, z = .agg ⟨Yx ⟨⟨some ⟨bs, 0, none⟩, 1, 1⟩, Yw, Yw, Yw⟩ wr2⟩ ∧ RcIn ρ' ⟨⟨some ⟨bs, 0, none⟩, 1, 1⟩, Yw, Yw, Yw⟩ wr2 ∧ L' = []) := by
 refine Zd Tryz.func57 rfl rfl rfl fun u R => ?_
 simp only [Zo, List.cons_append, List.nil_append]
 repeat' (first | (refine ZH (css := [imV wIm]) (sz := 7) rfl rfl rfl rfl (by simp) (by simp) rfl (fun bs => ?_); simp only [List.flatten_cons, List.flatten_nil, List.append_nil]) | refine zV ?_ | intro _)
 refine ZY [(bs, .cells ⟨imV wIm⟩ 100 (0, 0))] (h := by repeat (first | exact ZD | apply ZA)) (fun ρ3 hle3 hfz => ?_)
 have hbs := hfz _ (List.mem_singleton.2 rfl)
 exact qE (L' := []) (hle := hle3) ⟨hle3, bs, rfl, ⟨⟨⟨rfl, .inr ⟨bs, 0, _, _, _, rfl, hbs, Nat.le_refl _, rfl⟩, by simp [imV_len]⟩, by dsimp only; omega, by dsimp only; omega⟩, fun x hx => by (rw [List.mem_singleton.1 hx]; exact ⟨CI.nil, CI.nil⟩), AS.nil, AS.nil, AS.nil, by simp [wr2]⟩, rfl⟩
theorem runW (ρ : Hp) (bs b2 : Nat) (h : RcIn ρ ⟨⟨some ⟨bs, 0, none⟩, 1, 1⟩, Yw, Yw, Yw⟩ wr2)
  (hb : ρ b2 = some (.cells ⟨Yx noRV wr1 ++ Yx ⟨⟨some ⟨bs, 0, none⟩, 1, 1⟩, Yw, Yw, Yw⟩ wr2⟩ 34 (0, 0))) :
  Spec Tryz.prog 35 [.agg ⟨anV (newD 1 0 3)⟩, .slice (some ⟨b2, 0, none⟩) 2 2] ρ [] (fun z ρ' L' => ρ.le ρ' ∧ ∃ d' : AnD, z = .tuple ⟨[.agg ⟨anV d'⟩, .int .i64 0]⟩ ∧ AnIn ρ' d' ∧ d'.p = wA3 ∧ (d'.next = 3 ∧ d'.fin = 3 ∧ d'.rv.n = 1 ∧ d'.dv.n = 1) ∧ (∃ b off C T fr, d'.dv.a = some ⟨b, off, none⟩ ∧ ρ' b = some (.cells ⟨C⟩ T fr) ∧ off + 0 * 2 + 2 ≤ C.length ∧ (C.drop (off + 0 * 2)).take 2 = YG ⟨5, 2⟩) ∧ L' = []) := by
 obtain ⟨w1, w2, w3, w4, w5⟩ := wA_run
 have hA : AIn ρ 10 lvV (some ⟨b2, 0, none⟩) 2 [(noRV, wr1), (⟨⟨some ⟨bs, 0, none⟩, 1, 1⟩, Yw, Yw, Yw⟩, wr2)] := ⟨rfl, .inr ⟨b2, 0, _, _, _, rfl, hb, Nat.le_refl _, rfl⟩, fun x _ => rfl⟩
 have hP : ∀ x ∈ [((noRV, wr1) : RV × Rc), (⟨⟨some ⟨bs, 0, none⟩, 1, 1⟩, Yw, Yw, Yw⟩, wr2)], RcIn ρ x.1 x.2 := fun x hx => by
  rcases List.mem_cons.1 hx with rfl | hx
  ·exact ⟨AS.nil, by simp [wr1], AS.nil, AS.nil, AS.nil, by simp [wr1]⟩
  ·rw [List.mem_singleton.1 hx]; exact h
 have hR := run_an_spec ρ (newD 1 0 3) newD_in (some ⟨b2, 0, none⟩) 2 2 _ hA hP (by omega)
 have e0 : (newD 1 0 3).p = newA 1 0 3 := rfl
 simp only [List.map_cons, List.map_nil, e0, w1, w2] at hR
 refine hR.mono ?_
 rintro z ρ' L' _ ⟨g1, d', g2, g3, g4, g5⟩
 have q1 : d'.ro.p.txns.length = 1 := congrArg (fun a : AnP => a.ros.txns.length) g4
 have q2 : d'.dirty = [⟨5, 2⟩] := congrArg AnP.dirty g4
 have q3 := g3.d.at'
 rw [q2] at q3
 have q4 := q3.len
 have q5 := g3.r.at'.at'.len
 simp only [Ros.p, List.length_map] at q1
 refine ⟨g1, d', g2, g3, g4, ⟨congrArg AnP.next g4, congrArg AnP.fin g4, by omega, q4.symm⟩, ?_, g5⟩
 obtain ⟨b, off, C, T, fr, f1, f2, f3, f4⟩ := q3.get (show 0 < [(⟨5, 2⟩ : Yq)].length by decide)
 exact ⟨b, off, C, T, fr, f1, f2, f3, f4⟩
theorem YA (ρ : Hp) : Spec Tryz.prog 21 [] ρ [] (fun v ρ' L' => v = .bool true ∧ ρ.le ρ' ∧ L' = []) := by
 obtain ⟨w1, w2, w3, w4, w5⟩ := wA_run
 have hB := fun ρ1 => begin_spec ρ1 1 0 3
 rw [w3] at hB
 simp only [if_true] at hB
 refine Zd Tryz.func21 rfl rfl rfl fun u R => ?_
 simp only [Zo, List.cons_append, List.nil_append]
 repeat' (first | (refine Zc (.func 22) ?_; refine qC rfl rfl (hB _) ?_; rintro v ρ' L' hle ⟨rfl, rfl, rfl⟩ <;> (try simp only [kM, kN, kO])) | refine zV ?_ | intro _)
 refine Zu (Zk _ _ ([])) (Zw (hT := tk) (Hp.le_refl _)) ?_
 all_goals refine rBu 1 ?_ (y := fun _ _ => y_buildN rfl)
 all_goals (refine YD (i := 0) (j := 2) ?_ ?_ <;> ((try refine Zh ?_); (first | (refine Zc (.func 57) ?_; refine qC rfl rfl (change23_spec _) ?_; rintro v ρ' L' hle ⟨hz1, bs, rfl, hch, rfl⟩ <;> (try simp only [kM, kN, kO])) | (refine ZH (css := [Yx noRV wr1, Yx ⟨⟨some ⟨bs, 0, none⟩, 1, 1⟩, Yw, Yw, Yw⟩ wr2]) (sz := 10) rfl rfl rfl rfl (by simp) (by simp) rfl (fun b2 => ?_); simp only [List.flatten_cons, List.flatten_nil, List.append_nil]; refine Yb _ (h := Rem.here) (fun ρz hlz hfz => ?_); have hb2 := hfz _ (List.mem_singleton.2 rfl); clear hfz; (try simp only [List.nil_append]); have hRn := runW ρz bs b2 (hch.mono hlz) hb2) | (refine Zc (.func 35) ?_; refine qC rfl rfl (hRn) ?_; rintro v ρ' L' hle ⟨hz2, d1, rfl, hd1, hp1, ⟨n1, n2, n3, n4⟩, ⟨b, off, C, T, fr, f1, f2, f3, f4⟩, rfl⟩ <;> (try simp only [kM, kN, kO])) | (refine Xv ?_; refine qQ ?_) | (refine ZF ?_; try intro _)) <;> ((try simp only [kM, kN, kO]); refine Zf ?_; refine Zi ?_)))
 all_goals (first | (refine Zj (i := 2) ?_; ((try refine Zh ?_); (first | (refine Zc (.func 57) ?_; refine qC rfl rfl (change23_spec _) ?_; rintro v ρ' L' hle ⟨hz1, bs, rfl, hch, rfl⟩ <;> (try simp only [kM, kN, kO])) | (refine Xv ?_; refine qQ ?_) | (refine ZF ?_; try intro _)) <;> ((try simp only [kM, kN, kO]); refine Zf ?_; refine Zi ?_))) | (refine YD (i := 0) (j := 3) ?_ ?_ <;> ((try refine Zh ?_); (first | (refine Zc (.func 57) ?_; refine qC rfl rfl (change23_spec _) ?_; rintro v ρ' L' hle ⟨hz1, bs, rfl, hch, rfl⟩ <;> (try simp only [kM, kN, kO])) | (refine ZH (css := [Yx noRV wr1, Yx ⟨⟨some ⟨bs, 0, none⟩, 1, 1⟩, Yw, Yw, Yw⟩ wr2]) (sz := 10) rfl rfl rfl rfl (by simp) (by simp) rfl (fun b2 => ?_); simp only [List.flatten_cons, List.flatten_nil, List.append_nil]; refine Yb _ (h := Rem.here) (fun ρz hlz hfz => ?_); have hb2 := hfz _ (List.mem_singleton.2 rfl); clear hfz; (try simp only [List.nil_append]); have hRn := runW ρz bs b2 (hch.mono hlz) hb2) | (refine Zc (.func 35) ?_; refine qC rfl rfl (hRn) ?_; rintro v ρ' L' hle ⟨hz2, d1, rfl, hd1, hp1, ⟨n1, n2, n3, n4⟩, ⟨b, off, C, T, fr, f1, f2, f3, f4⟩, rfl⟩ <;> (try simp only [kM, kN, kO])) | (refine Xv ?_; refine qQ ?_) | (refine ZF ?_; try intro _)) <;> ((try simp only [kM, kN, kO]); refine Zf ?_; refine Zi ?_))))
 all_goals (first | (refine Zj (i := 3) ?_; ((try refine Zh ?_); (first | (refine ZH (css := [Yx noRV wr1, Yx ⟨⟨some ⟨bs, 0, none⟩, 1, 1⟩, Yw, Yw, Yw⟩ wr2]) (sz := 10) rfl rfl rfl rfl (by simp) (by simp) rfl (fun b2 => ?_); simp only [List.flatten_cons, List.flatten_nil, List.append_nil]; refine Yb _ (h := Rem.here) (fun ρz hlz hfz => ?_); have hb2 := hfz _ (List.mem_singleton.2 rfl); clear hfz; (try simp only [List.nil_append]); have hRn := runW ρz bs b2 (hch.mono hlz) hb2) | (refine Xv ?_; refine qQ ?_) | (refine ZF ?_; try intro _)) <;> ((try simp only [kM, kN, kO]); refine Zf ?_; refine Zi ?_))) | (refine Zj (i := 0) ?_; ((try refine Zh ?_); (first | (refine Zc (.func 57) ?_; refine qC rfl rfl (change23_spec _) ?_; rintro v ρ' L' hle ⟨hz1, bs, rfl, hch, rfl⟩ <;> (try simp only [kM, kN, kO])) | (refine ZH (css := [Yx noRV wr1, Yx ⟨⟨some ⟨bs, 0, none⟩, 1, 1⟩, Yw, Yw, Yw⟩ wr2]) (sz := 10) rfl rfl rfl rfl (by simp) (by simp) rfl (fun b2 => ?_); simp only [List.flatten_cons, List.flatten_nil, List.append_nil]; refine Yb _ (h := Rem.here) (fun ρz hlz hfz => ?_); have hb2 := hfz _ (List.mem_singleton.2 rfl); clear hfz; (try simp only [List.nil_append]); have hRn := runW ρz bs b2 (hch.mono hlz) hb2) | (refine Zc (.func 35) ?_; refine qC rfl rfl (hRn) ?_; rintro v ρ' L' hle ⟨hz2, d1, rfl, hd1, hp1, ⟨n1, n2, n3, n4⟩, ⟨b, off, C, T, fr, f1, f2, f3, f4⟩, rfl⟩ <;> (try simp only [kM, kN, kO])) | (refine Xv ?_; refine qQ ?_) | (refine ZF ?_; try intro _)) <;> ((try simp only [kM, kN, kO]); refine Zf ?_; refine Zi ?_))))
 all_goals (refine Zj (i := 4) ?_; ((try refine Zh ?_); (first | (refine Zc (.func 35) ?_; refine qC rfl rfl (hRn) ?_; rintro v ρ' L' hle ⟨hz2, d1, rfl, hd1, hp1, ⟨n1, n2, n3, n4⟩, ⟨b, off, C, T, fr, f1, f2, f3, f4⟩, rfl⟩ <;> (try simp only [kM, kN, kO])) | (refine Xv ?_; refine qQ ?_) | (refine ZF ?_; try intro _)) <;> ((try simp only [kM, kN, kO]); refine Zf ?_; refine Zi ?_)))
 all_goals (refine Zx 5 ?_; refine rEx 6 ?_; refine rEx 7 ?_)
 all_goals (refine Zj (i := 8) ?_; ((try refine Zh ?_); (first | (refine Xv ?_; refine qQ ?_) | (refine ZF ?_; try intro _)) <;> ((try simp only [kM, kN, kO]); refine Zf ?_; refine Zi ?_)))
 all_goals (refine Zz ?_; refine rAs 9 ?_; refine Zv ?_)
 all_goals (
  have hOv := over_an_spec ρ' d1 hd1
  have hFi := first_an_spec ρ' d1 hd1
  rw [hp1, w4, n1, n2] at hOv
  rw [hp1, w4, w5] at hFi
  simp only [if_true] at hFi
  simp only [anV, f1, n3, n4] at hOv hFi ⊢)
 all_goals (repeat' (first | (refine Zc (.func 30) ?_; refine qC rfl rfl (hOv) ?_; rintro v ρ' L' hle ⟨rfl, rfl, rfl⟩ <;> (try simp only [kM, kN, kO])) | (refine Zc (.func 31) ?_; refine qC rfl rfl (hFi) ?_; rintro v ρ' L' hle ⟨rfl, rfl, rfl⟩ <;> (try simp only [kM, kN, kO])) | refine zV ?_ | intro _))
 all_goals exact qE (L' := []) (hle := Hp.le_trans hz1 (Hp.le_trans hlz hz2)) ⟨rfl, Hp.le_trans hz1 (Hp.le_trans hlz hz2), rfl⟩
end Go.Proofs.E
