/- Laws of analysis. Part 28 of 41. -/
import Derived.Test.YtkbiahafeoillaaGreatA27
namespace Go.Proofs.E
open Go
set_option linter.unusedVariables false
set_option linter.unusedSimpArgs false
set_option linter.unusedSectionVars false
set_option maxRecDepth 4000
set_option maxHeartbeats 1000000
attribute [local irreducible] Yl TL TC TE Spec Xb R1 Hp.le EnvLe TS TR YS Zk
def aheadA (a : AnP) (r : Rc) : Option AnP := if r.kind = 1 then (if r.txn < a.ros.next then none else tkA a ⟨r.txn, a.ros.txns⟩ a.dirty r) else if Xg a.ros r.txn = none then some a else tkA a a.ros a.dirty r
def atA (a : AnP) (r : Rc) : Option AnP := if r.kind ≠ 9 ∨ r.nextTxn < a.ros.next ∨ r.txns ≠ a.ros.txns.map ckT then none else some { a with ros := ⟨r.nextTxn, a.ros.txns⟩, dirty := r.dirty }
def behA (a : AnP) (r : Rc) : Option AnP := tkA a a.ros (XW r a.dirty) r
theorem readA_at {a : AnP} {r : Rc} (h : a.next = a.master) : WJ a r = atA a r := by unfold WJ atA; rw [if_pos h]
theorem readA_ahead {a : AnP} {r : Rc} (h : a.next < a.master) : WJ a r = aheadA a r := by unfold WJ aheadA; rw [if_neg (by omega), if_pos h]
theorem readA_beh {a : AnP} {r : Rc} (h : a.master < a.next) : WJ a r = behA a r := by unfold WJ behA; rw [if_neg (by omega), if_neg (by omega)]
theorem tkA_same {a q : AnP} {p : Xh} {l : List Yq} {r : Rc} (h : tkA a p l r = some q) : q.base = a.base ∧ q.master = a.master ∧ q.fin = a.fin ∧ q.next = a.next := by
 unfold tkA at h
 split at h
 ·cases h; exact ⟨rfl, rfl, rfl, rfl⟩
 ·cases h
theorem readA_same {a q : AnP} {r : Rc} (h : WJ a r = some q) : q.base = a.base ∧ q.master = a.master ∧ q.fin = a.fin ∧ q.next = a.next := by
 unfold WJ at h
 repeat' split at h
 all_goals first | (cases h; done) | (cases h; exact ⟨rfl, rfl, rfl, rfl⟩) | exact tkA_same h
abbrev rdV (d : AnD) (rv : RV) (r : Rc) : List Value := [.int .u64 d.base, .int .u64 d.master, .int .u64 d.fin, .int .u64 d.next, .int .i64 d.ro.next, .slice d.rv.a d.rv.n d.rv.c, .slice d.dv.a d.dv.n d.dv.c, .int .i64 r.kind, .int .u64 r.lsn, .int .i64 r.txn, .int .u64 r.prev, .int .u64 r.next, .slice rv.i.a rv.i.n rv.i.c, .slice rv.s.a rv.s.n rv.s.c, .int .i64 r.nextTxn, .slice rv.t.a rv.t.n rv.t.c, .slice rv.d.a rv.d.n rv.d.c]
abbrev rdA (b : Nat) (d : AnD) (rv : RV) (r : Rc) : List (Nat × Obj) := [(b, .cells ⟨rdV d rv r⟩ 127 (0, 0))]
theorem rtakes_spec (ρ : Hp) (b : Nat) (d : AnD) (h : AnIn ρ d) (rv : RV) (r : Rc) (hr : RcIn ρ rv r) (hG : rosOkP d.ro.p = true) (hok : ZU r = true) :
  Spec Tryz.prog 114 [.pointer (some ⟨b, 0, none⟩)] ρ [rdA b d rv r]
   (fun z ρ' L' => ρ.le ρ' ∧ ∃ d' : AnD, z = .bool (decide (YI d.ro.p r = 0)) ∧ AnIn ρ' d' ∧ d'.p = (if YI d.ro.p r = 0 then { d.p with ros := Xn d.ro.p r } else d.p) ∧ L' = [rdA b d' rv r]) := by
 have hT := takeF_spec ρ d.rv d.ro h.r rv r hr
 have e1 : takeE d.ro.p r = YI d.ro.p r := by unfold takeE; rw [hG, hok]; rfl
 have e2 : takeP d.ro.p r = if YI d.ro.p r = 0 then Xn d.ro.p r else ⟨0, []⟩ := by unfold takeP; rw [e1]
 rw [e1, e2] at hT
 have hfin : ∀ (v' : SV) (r' : Ros), r'.p = Xn d.ro.p r → ({ d with rv := v', ro := r' } : AnD).p = { d.p with ros := Xn d.ro.p r } := fun v' r' e => by
  show (⟨d.base, d.master, d.fin, d.next, r'.p, d.dirty⟩ : AnP) = _
  rw [e]
 refine Zd Tryz.func114 rfl rfl rfl fun u R => ?_
 simp only [Zo, List.cons_append, List.nil_append]
 by_cases he : YI d.ro.p r = 0
 ·simp only [he, if_true, decide_true] at hT ⊢
  generalize Xn d.ro.p r = tp at *
  repeat' (first | refine zV ?_ | intro _)
  refine Zu (Zk _ _ ([rdA b d rv r])) (Zw (hT := tk) (Hp.le_refl _)) ?_
  all_goals (refine Zx 0 ?_; refine rNc 1 ?_; refine ZN 2 ?_; refine ZN 3 ?_; refine ZQ 4 ?_; refine Zx 5 ?_; refine rNc 6 ?_; refine ZN 7 ?_; refine ZQ 8 ?_)
  all_goals (refine YD (i := 9) (j := 13) ?_ ?_ <;> ((try refine Zh ?_); (first | (refine Zc (.func 18) ?_; refine qC rfl rfl (hT) ?_; rintro v ρ' L' hle ⟨⟨hz1, v1, r1, rfl, hR1, hp1⟩, rfl⟩ <;> (try simp only [kM, kN, kO])) | (refine ZF ?_; try intro _)) <;> ((try simp only [kM, kN, kO]); refine Zf ?_; refine Zi ?_)))
  all_goals (first | refine Zx 10 ?_ | (refine Zj (i := 9) ?_; ((try refine Zh ?_); (first | (refine Zc (.func 18) ?_; refine qC rfl rfl (hT) ?_; rintro v ρ' L' hle ⟨⟨hz1, v1, r1, rfl, hR1, hp1⟩, rfl⟩ <;> (try simp only [kM, kN, kO])) | (refine ZF ?_; try intro _)) <;> ((try simp only [kM, kN, kO]); refine Zf ?_; refine Zi ?_))))
  all_goals (first | refine Zx 10 ?_ | refine rEx 11 ?_)
  all_goals (first | refine rEx 11 ?_ | refine rEx 12 ?_)
  all_goals (first | refine rEx 12 ?_ | (refine Zj (i := 13) ?_; ((try refine Zh ?_); (first | (refine ZF ?_; try intro _)) <;> ((try simp only [kM, kN, kO]); refine Zf ?_; refine Zi ?_))))
  all_goals (refine Zj (i := 14) ?_; ((try refine Zh ?_); (first | (refine ZF ?_; try intro _)) <;> ((try simp only [kM, kN, kO]); refine Zf ?_; refine Zi ?_)))
  all_goals (refine Zz ?_; refine rAs 15 ?_; refine Zv ?_)
  all_goals (repeat' (first | refine zV ?_ | intro _))
  all_goals exact qE (L' := [rdA b { d with rv := v1, ro := r1 } rv r]) ⟨hz1, { d with rv := v1, ro := r1 }, rfl, ⟨hR1, h.d.mono hz1⟩, hfin v1 r1 hp1, rfl⟩
 ·simp only [he, if_false, decide_false] at hT ⊢
  generalize YI d.ro.p r = te at *
  repeat' (first | refine zV ?_ | intro _)
  refine Zu (Zk _ _ ([rdA b d rv r])) (Zw (hT := tk) (Hp.le_refl _)) ?_
  all_goals (refine Zx 0 ?_; refine rNc 1 ?_; refine ZN 2 ?_; refine ZN 3 ?_; refine ZQ 4 ?_; refine Zx 5 ?_; refine rNc 6 ?_; refine ZN 7 ?_; refine ZQ 8 ?_)
  all_goals (refine YD (i := 9) (j := 13) ?_ ?_ <;> ((try refine Zh ?_); (first | (refine Zc (.func 18) ?_; refine qC rfl rfl (hT) ?_; rintro v ρ' L' hle ⟨⟨hz1, v1, r1, rfl, hR1, hp1⟩, rfl⟩ <;> (try simp only [kM, kN, kO])) | (refine ZF ?_; try intro _)) <;> ((try simp only [kM, kN, kO]); refine Zf ?_; refine Zi ?_)))
  all_goals (first | refine Zx 10 ?_ | (refine Zj (i := 9) ?_; ((try refine Zh ?_); (first | (refine Zc (.func 18) ?_; refine qC rfl rfl (hT) ?_; rintro v ρ' L' hle ⟨⟨hz1, v1, r1, rfl, hR1, hp1⟩, rfl⟩ <;> (try simp only [kM, kN, kO])) | (refine ZF ?_; try intro _)) <;> ((try simp only [kM, kN, kO]); refine Zf ?_; refine Zi ?_))))
  all_goals (first | refine Zx 10 ?_ | refine rEx 11 ?_)
  all_goals (first | refine rEx 11 ?_ | refine rEx 12 ?_)
  all_goals (first | refine rEx 12 ?_ | (refine Zj (i := 13) ?_; ((try refine Zh ?_); (first | (refine ZF ?_; try intro _)) <;> ((try simp only [kM, kN, kO]); refine Zf ?_; refine Zi ?_))))
  all_goals (refine Zj (i := 14) ?_; ((try refine Zh ?_); (first | (refine ZF ?_; try intro _)) <;> ((try simp only [kM, kN, kO]); refine Zf ?_; refine Zi ?_)))
  all_goals (refine Zz ?_; refine rAs 15 ?_; refine Zv ?_)
  all_goals (repeat' (first | refine zV ?_ | intro _))
  all_goals exact qE (L' := [rdA b d rv r]) ⟨hz1, d, rfl, h.mono hz1, rfl, rfl⟩
abbrev RdPost (ρ : Hp) (b : Nat) (o : Option AnP) (rv : RV) (r : Rc) : Value → Hp → SH → Prop :=
 fun z ρ' L' => ρ.le ρ' ∧ ∃ d' : AnD, z = .bool o.isSome ∧ AnIn ρ' d' ∧ (∀ q, o = some q → d'.p = q) ∧ L' = [rdA b d' rv r]
theorem ahead_spec (ρ : Hp) (b : Nat) (d : AnD) (h : AnIn ρ d) (rv : RV) (r : Rc) (hr : RcIn ρ rv r) (hG : rosOkP d.ro.p = true) (hok : ZU r = true) :
  Spec Tryz.prog 63 [.pointer (some ⟨b, 0, none⟩)] ρ [rdA b d rv r] (RdPost ρ b (aheadA d.p r) rv r) := by
 have hf := Xp hok
 unfold aheadA
 dsimp only
 refine Zd Tryz.func63 rfl rfl rfl fun u R => ?_
 simp only [Zo, List.cons_append, List.nil_append]
 by_cases k1 : r.kind = 1
 ·rw [if_pos k1]
  by_cases c : r.txn < d.ro.next
  ·rw [if_pos c]
   repeat' (first | refine zV ?_ | intro _)
   refine Zu (Zk _ _ _) Zp ?_
   all_goals (refine Zx 0 ?_; refine Zz ?_; refine rNc 1 ?_; refine ZN 2 ?_; refine ZN 3 ?_; refine ZQ 4 ?_; refine Zx 5 ?_; refine rNc 6 ?_; refine ZN 7 ?_; refine ZN 8 ?_; refine ZN 9 ?_; refine ZQ 10 ?_; refine rCm 11 ?_; refine Zv ?_)
   all_goals (repeat' (first | refine zV ?_ | intro _))
   all_goals exact qE (L' := [rdA b d rv r]) ⟨Hp.le_refl _, d, rfl, h, fun q e => absurd e (by simp), rfl⟩
  ·rw [if_neg c]
   have hG2 : rosOkP ⟨r.txn, d.ro.p.txns⟩ = true := rosG_iff.2 ((rosG_iff.1 hG).more (by show d.ro.next ≤ _; omega) hf.txn.2)
   have hin : AnIn ρ { d with ro := ⟨r.txn, d.ro.txns⟩ } := ⟨⟨h.r.at', h.r.tx⟩, h.d⟩
   have hT := rtakes_spec ρ b { d with ro := ⟨r.txn, d.ro.txns⟩ } hin rv r hr hG2 hok
   unfold tkA
   dsimp only at hT
   by_cases he : YI ⟨r.txn, d.ro.txns.map Tx.p⟩ r = 0
   ·simp only [he, if_true, decide_true] at hT ⊢
    repeat' (first | refine zV ?_ | intro _)
    refine Zu (Zk _ _ _) Zp ?_
    all_goals (refine Zx 0 ?_; refine Zz ?_; refine rNc 1 ?_; refine ZN 2 ?_; refine ZN 3 ?_; refine ZQ 4 ?_; refine Zx 5 ?_; refine rNc 6 ?_; refine ZN 7 ?_; refine ZN 8 ?_; refine ZN 9 ?_; refine ZQ 10 ?_; refine rCm 11 ?_; refine Zv ?_)
    all_goals (repeat' (first | (refine Zc (.func 114) ?_; refine qC rfl rfl (hT) ?_; rintro v ρ' L' hle ⟨hz1, d1, rfl, hd1, hp1, rfl⟩ <;> (try simp only [kM, kN, kO])) | refine zV ?_ | intro _))
    all_goals exact qE (L' := [rdA b d1 rv r]) ⟨hz1, d1, rfl, hd1, fun q e => by cases e; exact hp1, rfl⟩
   ·simp only [he, if_false, decide_false] at hT ⊢
    repeat' (first | refine zV ?_ | intro _)
    refine Zu (Zk _ _ _) Zp ?_
    all_goals (refine Zx 0 ?_; refine Zz ?_; refine rNc 1 ?_; refine ZN 2 ?_; refine ZN 3 ?_; refine ZQ 4 ?_; refine Zx 5 ?_; refine rNc 6 ?_; refine ZN 7 ?_; refine ZN 8 ?_; refine ZN 9 ?_; refine ZQ 10 ?_; refine rCm 11 ?_; refine Zv ?_)
    all_goals (repeat' (first | (refine Zc (.func 114) ?_; refine qC rfl rfl (hT) ?_; rintro v ρ' L' hle ⟨hz1, d1, rfl, hd1, hp1, rfl⟩ <;> (try simp only [kM, kN, kO])) | refine zV ?_ | intro _))
    all_goals exact qE (L' := [rdA b d1 rv r]) ⟨hz1, d1, rfl, hd1, fun q e => absurd e (by simp), rfl⟩
 ·rw [if_neg k1]
  have hF := rfind_spec ρ d.rv d.ro h.r r.txn
  have hro : WB d.ro = true := by rw [← rosOk_p]; exact hG
  simp only [hro, if_true] at hF
  have hT := fun ρ1 (hle : ρ.le ρ1) => rtakes_spec ρ1 b d (h.mono hle) rv r (hr.mono hle) hG hok
  unfold tkA
  dsimp only at hT ⊢
  cases hfd : Xg d.ro.p r.txn with
  | none =>
   rw [hfd] at hF
   rw [if_pos rfl]
   have hF2 : Spec Tryz.prog 19 [.agg ⟨XI d.rv d.ro⟩, .int .i64 r.txn] ρ [] (fun z ρ' L' => ρ' = ρ ∧ ∃ x, z = .tuple ⟨[.agg ⟨Yk x⟩, .bool false]⟩ ∧ L' = []) := by
    refine hF.mono ?_
    rintro z ρ' L' _ ⟨q1, x, b, q2, q3, q4, q5⟩
    rcases q4 with ⟨t, e, _⟩ | ⟨_, rfl, _⟩
    ·cases e
    ·exact ⟨q1, x, q2, q5⟩
   repeat' (first | refine zV ?_ | intro _)
   refine Zu (Zk _ _ ([rdA b d rv r])) (Zw (hT := tk) (Hp.le_refl _)) ?_
   all_goals (refine Zx 0 ?_; refine rNc 1 ?_; refine ZN 2 ?_; refine ZN 3 ?_; refine ZQ 4 ?_; refine Zx 5 ?_; refine rNc 6 ?_; refine ZN 7 ?_; refine ZN 8 ?_; refine ZQ 9 ?_)
   all_goals (refine YD (i := 10) (j := 14) ?_ ?_ <;> ((try refine Zh ?_); (first | (refine Zc (.func 19) ?_; refine qC rfl rfl (hF2) ?_; rintro v ρ' L' hle ⟨rfl, x, rfl, rfl⟩ <;> (try simp only [kM, kN, kO])) | (refine ZF ?_; try intro _)) <;> ((try simp only [kM, kN, kO]); refine Zf ?_; refine Zi ?_)))
   all_goals (first | refine Zx 11 ?_ | (refine Zj (i := 10) ?_; ((try refine Zh ?_); (first | (refine Zc (.func 19) ?_; refine qC rfl rfl (hF2) ?_; rintro v ρ' L' hle ⟨rfl, x, rfl, rfl⟩ <;> (try simp only [kM, kN, kO])) | (refine ZF ?_; try intro _)) <;> ((try simp only [kM, kN, kO]); refine Zf ?_; refine Zi ?_))))
   all_goals (first | refine Zx 11 ?_ | refine rEx 12 ?_)
   all_goals (first | refine rEx 12 ?_ | refine rEx 13 ?_)
   all_goals (first | refine rEx 13 ?_ | (refine Zj (i := 14) ?_; ((try refine Zh ?_); (first | (refine ZF ?_; try intro _)) <;> ((try simp only [kM, kN, kO]); refine Zf ?_; refine Zi ?_))))
   all_goals (refine Zj (i := 15) ?_; ((try refine Zh ?_); (first | (refine ZF ?_; try intro _)) <;> ((try simp only [kM, kN, kO]); refine Zf ?_; refine Zi ?_)))
   all_goals (refine Zz ?_; refine rAs 16 ?_; refine Zv ?_)
   all_goals (repeat' (first | refine zV ?_ | intro _))
   all_goals exact qE (L' := [rdA b d rv r]) ⟨Hp.le_refl _, d, rfl, h, fun q e => by cases e; rfl, rfl⟩
  | some t =>
   rw [hfd] at hF
   rw [if_neg (by simp)]
   have hF2 : Spec Tryz.prog 19 [.agg ⟨XI d.rv d.ro⟩, .int .i64 r.txn] ρ [] (fun z ρ' L' => ρ' = ρ ∧ ∃ x, z = .tuple ⟨[.agg ⟨Yk x⟩, .bool true]⟩ ∧ L' = []) := by
    refine hF.mono ?_
    rintro z ρ' L' _ ⟨q1, x, b, q2, q3, q4, q5⟩
    rcases q4 with ⟨t, e, rfl, _⟩ | ⟨e, _, _⟩
    ·exact ⟨q1, x, q2, q5⟩
    ·cases e
   by_cases he : YI d.ro.p r = 0
   ·simp only [he, if_true, decide_true] at hT ⊢
    repeat' (first | refine zV ?_ | intro _)
    refine Zu (Zk _ _ ([rdA b d rv r])) (Zw (hT := tk) (Hp.le_refl _)) ?_
    all_goals (refine Zx 0 ?_; refine rNc 1 ?_; refine ZN 2 ?_; refine ZN 3 ?_; refine ZQ 4 ?_; refine Zx 5 ?_; refine rNc 6 ?_; refine ZN 7 ?_; refine ZN 8 ?_; refine ZQ 9 ?_)
    all_goals (refine YD (i := 10) (j := 14) ?_ ?_ <;> ((try refine Zh ?_); (first | (refine Zc (.func 19) ?_; refine qC rfl rfl (hF2) ?_; rintro v ρ' L' hle ⟨rfl, x, rfl, rfl⟩ <;> (try simp only [kM, kN, kO])) | (refine ZF ?_; try intro _)) <;> ((try simp only [kM, kN, kO]); refine Zf ?_; refine Zi ?_)))
    all_goals (first | refine Zx 11 ?_ | (refine Zj (i := 10) ?_; ((try refine Zh ?_); (first | (refine Zc (.func 19) ?_; refine qC rfl rfl (hF2) ?_; rintro v ρ' L' hle ⟨rfl, x, rfl, rfl⟩ <;> (try simp only [kM, kN, kO])) | (refine ZF ?_; try intro _)) <;> ((try simp only [kM, kN, kO]); refine Zf ?_; refine Zi ?_))))
    all_goals (first | refine Zx 11 ?_ | refine rEx 12 ?_)
    all_goals (first | refine rEx 12 ?_ | refine rEx 13 ?_)
    all_goals (first | refine rEx 13 ?_ | (refine Zj (i := 14) ?_; ((try refine Zh ?_); (first | (refine ZF ?_; try intro _)) <;> ((try simp only [kM, kN, kO]); refine Zf ?_; refine Zi ?_))))
    all_goals (refine Zj (i := 15) ?_; ((try refine Zh ?_); (first | (refine ZF ?_; try intro _)) <;> ((try simp only [kM, kN, kO]); refine Zf ?_; refine Zi ?_)))
    all_goals (refine Zz ?_; refine rAs 16 ?_; refine Zv ?_)
    all_goals (repeat' (first | (refine Zc (.func 114) ?_; refine qC rfl rfl (hT _ (Hp.le_refl _)) ?_; rintro v ρ' L' hle ⟨hz1, d1, rfl, hd1, hp1, rfl⟩ <;> (try simp only [kM, kN, kO])) | refine zV ?_ | intro _))
    all_goals exact qE (L' := [rdA b d1 rv r]) ⟨hz1, d1, rfl, hd1, fun q e => by cases e; exact hp1, rfl⟩
   ·simp only [he, if_false, decide_false] at hT ⊢
    repeat' (first | refine zV ?_ | intro _)
    refine Zu (Zk _ _ ([rdA b d rv r])) (Zw (hT := tk) (Hp.le_refl _)) ?_
    all_goals (refine Zx 0 ?_; refine rNc 1 ?_; refine ZN 2 ?_; refine ZN 3 ?_; refine ZQ 4 ?_; refine Zx 5 ?_; refine rNc 6 ?_; refine ZN 7 ?_; refine ZN 8 ?_; refine ZQ 9 ?_)
    all_goals (refine YD (i := 10) (j := 14) ?_ ?_ <;> ((try refine Zh ?_); (first | (refine Zc (.func 19) ?_; refine qC rfl rfl (hF2) ?_; rintro v ρ' L' hle ⟨rfl, x, rfl, rfl⟩ <;> (try simp only [kM, kN, kO])) | (refine ZF ?_; try intro _)) <;> ((try simp only [kM, kN, kO]); refine Zf ?_; refine Zi ?_)))
    all_goals (first | refine Zx 11 ?_ | (refine Zj (i := 10) ?_; ((try refine Zh ?_); (first | (refine Zc (.func 19) ?_; refine qC rfl rfl (hF2) ?_; rintro v ρ' L' hle ⟨rfl, x, rfl, rfl⟩ <;> (try simp only [kM, kN, kO])) | (refine ZF ?_; try intro _)) <;> ((try simp only [kM, kN, kO]); refine Zf ?_; refine Zi ?_))))
    all_goals (first | refine Zx 11 ?_ | refine rEx 12 ?_)
    all_goals (first | refine rEx 12 ?_ | refine rEx 13 ?_)
    all_goals (first | refine rEx 13 ?_ | (refine Zj (i := 14) ?_; ((try refine Zh ?_); (first | (refine ZF ?_; try intro _)) <;> ((try simp only [kM, kN, kO]); refine Zf ?_; refine Zi ?_))))
    all_goals (refine Zj (i := 15) ?_; ((try refine Zh ?_); (first | (refine ZF ?_; try intro _)) <;> ((try simp only [kM, kN, kO]); refine Zf ?_; refine Zi ?_)))
    all_goals (refine Zz ?_; refine rAs 16 ?_; refine Zv ?_)
    all_goals (repeat' (first | (refine Zc (.func 114) ?_; refine qC rfl rfl (hT _ (Hp.le_refl _)) ?_; rintro v ρ' L' hle ⟨hz1, d1, rfl, hd1, hp1, rfl⟩ <;> (try simp only [kM, kN, kO])) | refine zV ?_ | intro _))
    all_goals exact qE (L' := [rdA b d1 rv r]) ⟨hz1, d1, rfl, hd1, fun q e => absurd e (by simp), rfl⟩
theorem ckTs (l : List Tx) : l.map ckOf = (l.map Tx.p).map ckT := by rw [List.map_map]; rfl
theorem at_an_spec (ρ : Hp) (b : Nat) (d : AnD) (h : AnIn ρ d) (rv : RV) (r : Rc) (hr : RcIn ρ rv r) (hG : rosOkP d.ro.p = true) :
  Spec Tryz.prog 64 [.pointer (some ⟨b, 0, none⟩)] ρ [rdA b d rv r] (RdPost ρ b (atA d.p r) rv r) := by
 have hro : WB d.ro = true := by rw [← rosOk_p]; exact hG
 have hK := rosckpt_spec ρ d.rv d.ro h.r
 simp only [hro, if_true] at hK
 have hEq := fun ρ1 s (hle : ρ.le ρ1) (hs : AS ρ1 5 XU s (d.ro.txns.map ckOf)) => eqCKT_spec ρ1 rv.t s r.txns (d.ro.txns.map ckOf) (hr.t.mono hle) hs
 have hcl : ∀ ρ1, ρ.le ρ1 → Spec Tryz.prog 117 [.slice rv.d.a rv.d.n rv.d.c] ρ1 [] (fun v ρ' L' => ρ' = ρ1 ∧ ∃ va vc sp, v = .slice va r.dirty.length vc ∧ OwnS (.slice va r.dirty.length vc) r.dirty.length (Yy r.dirty) sp 2 ∧ L' = [ZG (.slice va r.dirty.length vc) (Yy r.dirty) sp 92]) := fun ρ1 hle => by
  refine (clonep_spec ρ1 rv.d r.dirty (hr.d.mono hle)).mono ?_
  rintro z ρ' L' _ ⟨q1, sp, q2, q3⟩
  obtain ⟨va, vc, rfl, _⟩ := q2.slice
  exact ⟨q1, va, vc, sp, rfl, q2, q3⟩
 have hdl := hr.d.at'.len
 have hdb := hr.d.big
 unfold atA
 dsimp only
 rw [← ckTs]
 refine Zd Tryz.func64 rfl rfl rfl fun u R => ?_
 simp only [Zo, List.cons_append, List.nil_append]
 by_cases k9 : r.kind = 9
 case' neg =>
  rw [if_pos (.inl k9)]
  repeat' (first | refine zV ?_ | intro _)
  refine Zu (Zk _ _ _) Zp ?_
  all_goals (refine Zx 0 ?_; refine rNc 1 ?_; refine ZN 2 ?_; refine ZN 3 ?_; refine ZQ 4 ?_; refine rCm 5 ?_; refine Zx 6 ?_; (first | refine Zb 7 ?_ | refine Za 7 ?_ | refine ZI 7 ?_); (first | refine Zb 8 ?_ | refine Za 8 ?_ | refine wNc 8 ?_); (first | refine Zb 9 ?_ | refine Za 9 ?_ | refine ZE 9 ?_); (first | refine Zb 10 ?_ | refine Za 10 ?_ | refine ZE 10 ?_); (first | refine Zb 11 ?_ | refine Za 11 ?_ | refine ZL 11 ?_); (first | refine Zb 12 ?_ | refine Za 12 ?_ | refine ZI 12 ?_); (first | refine Zb 13 ?_ | refine Za 13 ?_ | refine wNc 13 ?_); (first | refine Zb 14 ?_ | refine Za 14 ?_ | refine ZE 14 ?_); (first | refine Zb 15 ?_ | refine Za 15 ?_ | refine ZE 15 ?_); (first | refine Zb 16 ?_ | refine Za 16 ?_ | refine ZE 16 ?_); (first | refine Zb 17 ?_ | refine Za 17 ?_ | refine ZL 17 ?_); (first | refine Zb 18 ?_ | refine Za 18 ?_ | refine Yg 18 ?_); refine Yj 19 ?_; refine Zx 20 ?_; (first | refine Zb 21 ?_ | refine Za 21 ?_ | refine ZI 21 ?_); (first | refine Zb 22 ?_ | refine Za 22 ?_ | refine wNc 22 ?_); (first | refine Zb 23 ?_ | refine Za 23 ?_ | refine ZE 23 ?_); (first | refine Zb 24 ?_ | refine Za 24 ?_ | refine ZE 24 ?_); (first | refine Zb 25 ?_ | refine Za 25 ?_ | refine ZL 25 ?_); (first | refine Zb 26 ?_ | refine Za 26 ?_ | refine ZI 26 ?_); (first | refine Zb 27 ?_ | refine Za 27 ?_ | refine wNc 27 ?_); (first | refine Zb 28 ?_ | refine Za 28 ?_ | refine ZE 28 ?_); (first | refine Zb 29 ?_ | refine Za 29 ?_ | refine ZE 29 ?_); (first | refine Zb 30 ?_ | refine Za 30 ?_ | refine ZL 30 ?_))
  all_goals (first | refine Zb 31 ?_ | refine Za 31 ?_ | (refine Zj (i := 31) ?_; ((try refine Zh ?_); (first | (refine ZF ?_; try intro _)) <;> ((try simp only [kM, kN, kO]); refine Zf ?_; refine Zi ?_))))
  all_goals (first | refine Zb 32 ?_ | refine Za 32 ?_ | (refine Zj (i := 32) ?_; ((try refine Zh ?_); (first | (refine ZF ?_; try intro _)) <;> ((try simp only [kM, kN, kO]); refine Zf ?_; refine Zi ?_))))
  all_goals (refine Zz ?_; (first | refine Zb 33 ?_ | refine Za 33 ?_ | refine wUn 33 ?_); refine Yj 34 ?_; refine Zv ?_)
  all_goals (repeat' (first | refine zV ?_ | intro _))
  all_goals exact qE (L' := [rdA b d rv r]) ⟨Hp.le_refl _, d, rfl, h, fun q e => absurd e (by simp), rfl⟩
 by_cases c : r.nextTxn < d.ro.next
 case' pos =>
  rw [if_pos (.inr (.inl c))]
  repeat' (first | refine zV ?_ | intro _)
  refine Zu (Zk _ _ _) Zp ?_
  all_goals (refine Zx 0 ?_; refine rNc 1 ?_; refine ZN 2 ?_; refine ZN 3 ?_; refine ZQ 4 ?_; refine rCm 5 ?_; refine Zx 6 ?_; (first | refine Zb 7 ?_ | refine Za 7 ?_ | refine ZI 7 ?_); (first | refine Zb 8 ?_ | refine Za 8 ?_ | refine wNc 8 ?_); (first | refine Zb 9 ?_ | refine Za 9 ?_ | refine ZE 9 ?_); (first | refine Zb 10 ?_ | refine Za 10 ?_ | refine ZE 10 ?_); (first | refine Zb 11 ?_ | refine Za 11 ?_ | refine ZL 11 ?_); (first | refine Zb 12 ?_ | refine Za 12 ?_ | refine ZI 12 ?_); (first | refine Zb 13 ?_ | refine Za 13 ?_ | refine wNc 13 ?_); (first | refine Zb 14 ?_ | refine Za 14 ?_ | refine ZE 14 ?_); (first | refine Zb 15 ?_ | refine Za 15 ?_ | refine ZE 15 ?_); (first | refine Zb 16 ?_ | refine Za 16 ?_ | refine ZE 16 ?_); (first | refine Zb 17 ?_ | refine Za 17 ?_ | refine ZL 17 ?_); (first | refine Zb 18 ?_ | refine Za 18 ?_ | refine Yg 18 ?_); refine Yj 19 ?_; refine Zx 20 ?_; (first | refine Zb 21 ?_ | refine Za 21 ?_ | refine ZI 21 ?_); (first | refine Zb 22 ?_ | refine Za 22 ?_ | refine wNc 22 ?_); (first | refine Zb 23 ?_ | refine Za 23 ?_ | refine ZE 23 ?_); (first | refine Zb 24 ?_ | refine Za 24 ?_ | refine ZE 24 ?_); (first | refine Zb 25 ?_ | refine Za 25 ?_ | refine ZL 25 ?_); (first | refine Zb 26 ?_ | refine Za 26 ?_ | refine ZI 26 ?_); (first | refine Zb 27 ?_ | refine Za 27 ?_ | refine wNc 27 ?_); (first | refine Zb 28 ?_ | refine Za 28 ?_ | refine ZE 28 ?_); (first | refine Zb 29 ?_ | refine Za 29 ?_ | refine ZE 29 ?_); (first | refine Zb 30 ?_ | refine Za 30 ?_ | refine ZL 30 ?_))
  all_goals (first | refine Zb 31 ?_ | refine Za 31 ?_ | (refine Zj (i := 31) ?_; ((try refine Zh ?_); (first | (refine ZF ?_; try intro _)) <;> ((try simp only [kM, kN, kO]); refine Zf ?_; refine Zi ?_))))
  all_goals (first | refine Zb 32 ?_ | refine Za 32 ?_ | (refine Zj (i := 32) ?_; ((try refine Zh ?_); (first | (refine ZF ?_; try intro _)) <;> ((try simp only [kM, kN, kO]); refine Zf ?_; refine Zi ?_))))
  all_goals (refine Zz ?_; (first | refine Zb 33 ?_ | refine Za 33 ?_ | refine wUn 33 ?_); refine Yj 34 ?_; refine Zv ?_)
  all_goals (repeat' (first | refine zV ?_ | intro _))
  all_goals exact qE (L' := [rdA b d rv r]) ⟨Hp.le_refl _, d, rfl, h, fun q e => absurd e (by simp), rfl⟩
 by_cases ct : r.txns = d.ro.txns.map ckOf
 case' neg =>
  rw [if_pos (.inr (.inr ct))]
  simp only [decide_eq_false ct] at hEq
  repeat' (first | refine zV ?_ | intro _)
  refine Zu (Zk _ _ ([rdA b d rv r])) (Zw (hT := tk) (Hp.le_refl _)) ?_
  all_goals (refine Zx 0 ?_; refine rNc 1 ?_; refine ZN 2 ?_; refine ZN 3 ?_; refine ZQ 4 ?_; refine rCm 5 ?_; refine Zx 6 ?_; (first | refine Zb 7 ?_ | refine Za 7 ?_ | refine ZI 7 ?_); (first | refine Zb 8 ?_ | refine Za 8 ?_ | refine wNc 8 ?_); (first | refine Zb 9 ?_ | refine Za 9 ?_ | refine ZE 9 ?_); (first | refine Zb 10 ?_ | refine Za 10 ?_ | refine ZE 10 ?_); (first | refine Zb 11 ?_ | refine Za 11 ?_ | refine ZL 11 ?_); (first | refine Zb 12 ?_ | refine Za 12 ?_ | refine ZI 12 ?_); (first | refine Zb 13 ?_ | refine Za 13 ?_ | refine wNc 13 ?_); (first | refine Zb 14 ?_ | refine Za 14 ?_ | refine ZE 14 ?_); (first | refine Zb 15 ?_ | refine Za 15 ?_ | refine ZE 15 ?_); (first | refine Zb 16 ?_ | refine Za 16 ?_ | refine ZE 16 ?_); (first | refine Zb 17 ?_ | refine Za 17 ?_ | refine ZL 17 ?_); (first | refine Zb 18 ?_ | refine Za 18 ?_ | refine Yg 18 ?_); refine Yj 19 ?_; refine Zx 20 ?_; (first | refine Zb 21 ?_ | refine Za 21 ?_ | refine ZI 21 ?_); (first | refine Zb 22 ?_ | refine Za 22 ?_ | refine wNc 22 ?_); (first | refine Zb 23 ?_ | refine Za 23 ?_ | refine ZE 23 ?_); (first | refine Zb 24 ?_ | refine Za 24 ?_ | refine ZE 24 ?_); (first | refine Zb 25 ?_ | refine Za 25 ?_ | refine ZL 25 ?_); (first | refine Zb 26 ?_ | refine Za 26 ?_ | refine ZI 26 ?_); (first | refine Zb 27 ?_ | refine Za 27 ?_ | refine wNc 27 ?_); (first | refine Zb 28 ?_ | refine Za 28 ?_ | refine ZE 28 ?_); (first | refine Zb 29 ?_ | refine Za 29 ?_ | refine ZE 29 ?_); (first | refine Zb 30 ?_ | refine Za 30 ?_ | refine ZL 30 ?_))
  all_goals (first | refine Zb 31 ?_ | refine Za 31 ?_ | (refine Zj (i := 31) ?_; ((try refine Zh ?_); (first | (refine Zc (.func 116) ?_; refine qC rfl rfl (hK) ?_; rintro v ρ' L' hle ⟨hz1, s1, rfl, hs1, rfl⟩ <;> (try simp only [kM, kN, kO])) | (refine ZF ?_; try intro _)) <;> ((try simp only [kM, kN, kO]); refine Zf ?_; refine Zi ?_))))
  all_goals (first | refine Zb 32 ?_ | refine Za 32 ?_ | (refine Zj (i := 32) ?_; ((try refine Zh ?_); (first | (refine Zc (.func 115) ?_; refine qC rfl rfl (hEq _ s1 hz1 hs1) ?_; rintro v ρ' L' hle ⟨rfl, rfl, rfl⟩ <;> (try simp only [kM, kN, kO])) | (refine ZF ?_; try intro _)) <;> ((try simp only [kM, kN, kO]); refine Zf ?_; refine Zi ?_))))
  all_goals (refine Zz ?_; (first | refine Zb 33 ?_ | refine Za 33 ?_ | refine wUn 33 ?_); refine Yj 34 ?_; refine Zv ?_)
  all_goals (repeat' (first | refine zV ?_ | intro _))
  all_goals exact qE (L' := [rdA b d rv r]) ⟨hz1, d, rfl, h.mono hz1, fun q e => absurd e (by simp), rfl⟩
 rw [if_neg (by
  rintro (e | e | e)
  ·exact e k9
  ·exact c e
  ·exact e ct)]
 simp only [decide_eq_true ct] at hEq
 repeat' (first | refine zV ?_ | intro _)
 refine Zu (Zk _ _ ([rdA b d rv r])) (Zw (hT := tk) (Hp.le_refl _)) ?_
 all_goals (refine Zx 0 ?_; refine rNc 1 ?_; refine ZN 2 ?_; refine ZN 3 ?_; refine ZQ 4 ?_; refine rCm 5 ?_; refine Zx 6 ?_; (first | refine Zb 7 ?_ | refine Za 7 ?_ | refine ZI 7 ?_); (first | refine Zb 8 ?_ | refine Za 8 ?_ | refine wNc 8 ?_); (first | refine Zb 9 ?_ | refine Za 9 ?_ | refine ZE 9 ?_); (first | refine Zb 10 ?_ | refine Za 10 ?_ | refine ZE 10 ?_); (first | refine Zb 11 ?_ | refine Za 11 ?_ | refine ZL 11 ?_); (first | refine Zb 12 ?_ | refine Za 12 ?_ | refine ZI 12 ?_); (first | refine Zb 13 ?_ | refine Za 13 ?_ | refine wNc 13 ?_); (first | refine Zb 14 ?_ | refine Za 14 ?_ | refine ZE 14 ?_); (first | refine Zb 15 ?_ | refine Za 15 ?_ | refine ZE 15 ?_); (first | refine Zb 16 ?_ | refine Za 16 ?_ | refine ZE 16 ?_); (first | refine Zb 17 ?_ | refine Za 17 ?_ | refine ZL 17 ?_); (first | refine Zb 18 ?_ | refine Za 18 ?_ | refine Yg 18 ?_); refine Yj 19 ?_; refine Zx 20 ?_; (first | refine Zb 21 ?_ | refine Za 21 ?_ | refine ZI 21 ?_); (first | refine Zb 22 ?_ | refine Za 22 ?_ | refine wNc 22 ?_); (first | refine Zb 23 ?_ | refine Za 23 ?_ | refine ZE 23 ?_); (first | refine Zb 24 ?_ | refine Za 24 ?_ | refine ZE 24 ?_); (first | refine Zb 25 ?_ | refine Za 25 ?_ | refine ZL 25 ?_); (first | refine Zb 26 ?_ | refine Za 26 ?_ | refine ZI 26 ?_); (first | refine Zb 27 ?_ | refine Za 27 ?_ | refine wNc 27 ?_); (first | refine Zb 28 ?_ | refine Za 28 ?_ | refine ZE 28 ?_); (first | refine Zb 29 ?_ | refine Za 29 ?_ | refine ZE 29 ?_); (first | refine Zb 30 ?_ | refine Za 30 ?_ | refine ZL 30 ?_))
 all_goals (first | refine Zb 31 ?_ | refine Za 31 ?_ | (refine Zj (i := 31) ?_; ((try refine Zh ?_); (first | (refine Zc (.func 116) ?_; refine qC rfl rfl (hK) ?_; rintro v ρ' L' hle ⟨hz1, s1, rfl, hs1, rfl⟩ <;> (try simp only [kM, kN, kO])) | (refine ZF ?_; try intro _)) <;> ((try simp only [kM, kN, kO]); refine Zf ?_; refine Zi ?_))))
 all_goals (first | refine Zb 32 ?_ | refine Za 32 ?_ | (refine Zj (i := 32) ?_; ((try refine Zh ?_); (first | (refine Zc (.func 115) ?_; refine qC rfl rfl (hEq _ s1 hz1 hs1) ?_; rintro v ρ' L' hle ⟨rfl, rfl, rfl⟩ <;> (try simp only [kM, kN, kO])) | (refine ZF ?_; try intro _)) <;> ((try simp only [kM, kN, kO]); refine Zf ?_; refine Zi ?_))))
 all_goals (refine Zz ?_; (first | refine Zb 33 ?_ | refine Za 33 ?_ | refine wUn 33 ?_); refine Yj 34 ?_; refine Zv ?_)
 all_goals (repeat' (first | refine zV ?_ | intro _))
 all_goals refine Zu (Zk _ _ ([])) (Zw (hT := tk) (Hp.le_refl _)) ?_
 all_goals (refine Zx 0 ?_; refine Zx 2 ?_; refine rNc 3 ?_; refine ZN 4 ?_; refine ZN 5 ?_; refine Zx 7 ?_; refine rNc 8 ?_; refine ZN 9 ?_; refine ZN 10 ?_)
 all_goals (refine rStep3 (i := 1) (j := 6) (k := 11) ?_ ?_ ?_ <;> ((try refine Zh ?_); (first | (refine Zc (.func 117) ?_; refine qC rfl rfl (hcl _ hz1) ?_; rintro v ρ' L' hle ⟨rfl, va, vc, sp, rfl, hown, rfl⟩ <;> (try simp only [kM, kN, kO])) | (refine Xv ?_; refine qQ ?_) | (refine ZF ?_; try intro _)) <;> ((try simp only [kM, kN, kO]); refine Zf ?_; refine Zi ?_)))
 all_goals (first | (refine YD (i := 6) (j := 11) ?_ ?_ <;> ((try refine Zh ?_); (first | (refine Zc (.func 117) ?_; refine qC rfl rfl (hcl _ hz1) ?_; rintro v ρ' L' hle ⟨rfl, va, vc, sp, rfl, hown, rfl⟩ <;> (try simp only [kM, kN, kO])) | (refine Xv ?_; refine qQ ?_) | (refine ZF ?_; try intro _)) <;> ((try simp only [kM, kN, kO]); refine Zf ?_; refine Zi ?_))) | (refine YD (i := 1) (j := 11) ?_ ?_ <;> ((try refine Zh ?_); (first | (refine Zc (.func 117) ?_; refine qC rfl rfl (hcl _ hz1) ?_; rintro v ρ' L' hle ⟨rfl, va, vc, sp, rfl, hown, rfl⟩ <;> (try simp only [kM, kN, kO])) | (refine Xv ?_; refine qQ ?_) | (refine ZF ?_; try intro _)) <;> ((try simp only [kM, kN, kO]); refine Zf ?_; refine Zi ?_))) | (refine rStep3 (i := 1) (j := 6) (k := 12) ?_ ?_ ?_ <;> ((try refine Zh ?_); (first | (refine Zc (.func 117) ?_; refine qC rfl rfl (hcl _ hz1) ?_; rintro v ρ' L' hle ⟨rfl, va, vc, sp, rfl, hown, rfl⟩ <;> (try simp only [kM, kN, kO])) | (refine Xv ?_; refine qQ ?_) | (refine ZF ?_; try intro _)) <;> ((try simp only [kM, kN, kO]); refine Zf ?_; refine Zi ?_))))
 all_goals (first | (refine Zj (i := 11) ?_; ((try refine Zh ?_); (first | (refine Zc (.func 117) ?_; refine qC rfl rfl (hcl _ hz1) ?_; rintro v ρ' L' hle ⟨rfl, va, vc, sp, rfl, hown, rfl⟩ <;> (try simp only [kM, kN, kO])) | (refine Xv ?_; refine qQ ?_) | (refine ZF ?_; try intro _)) <;> ((try simp only [kM, kN, kO]); refine Zf ?_; refine Zi ?_))) | (refine YD (i := 6) (j := 12) ?_ ?_ <;> ((try refine Zh ?_); (first | (refine Zc (.func 117) ?_; refine qC rfl rfl (hcl _ hz1) ?_; rintro v ρ' L' hle ⟨rfl, va, vc, sp, rfl, hown, rfl⟩ <;> (try simp only [kM, kN, kO])) | (refine Xv ?_; refine qQ ?_) | (refine ZF ?_; try intro _)) <;> ((try simp only [kM, kN, kO]); refine Zf ?_; refine Zi ?_))) | (refine YD (i := 1) (j := 12) ?_ ?_ <;> ((try refine Zh ?_); (first | (refine Zc (.func 117) ?_; refine qC rfl rfl (hcl _ hz1) ?_; rintro v ρ' L' hle ⟨rfl, va, vc, sp, rfl, hown, rfl⟩ <;> (try simp only [kM, kN, kO])) | (refine Xv ?_; refine qQ ?_) | (refine ZF ?_; try intro _)) <;> ((try simp only [kM, kN, kO]); refine Zf ?_; refine Zi ?_))) | (refine YD (i := 1) (j := 6) ?_ ?_ <;> ((try refine Zh ?_); (first | (refine Zc (.func 117) ?_; refine qC rfl rfl (hcl _ hz1) ?_; rintro v ρ' L' hle ⟨rfl, va, vc, sp, rfl, hown, rfl⟩ <;> (try simp only [kM, kN, kO])) | (refine Xv ?_; refine qQ ?_) | (refine ZF ?_; try intro _)) <;> ((try simp only [kM, kN, kO]); refine Zf ?_; refine Zi ?_))))
 all_goals (first | refine rNc 13 ?_ | (refine Zj (i := 12) ?_; ((try refine Zh ?_); (first | (refine Zc (.func 117) ?_; refine qC rfl rfl (hcl _ hz1) ?_; rintro v ρ' L' hle ⟨rfl, va, vc, sp, rfl, hown, rfl⟩ <;> (try simp only [kM, kN, kO])) | (refine Xv ?_; refine qQ ?_) | (refine ZF ?_; try intro _)) <;> ((try simp only [kM, kN, kO]); refine Zf ?_; refine Zi ?_))) | (refine Zj (i := 6) ?_; ((try refine Zh ?_); (first | (refine Zc (.func 117) ?_; refine qC rfl rfl (hcl _ hz1) ?_; rintro v ρ' L' hle ⟨rfl, va, vc, sp, rfl, hown, rfl⟩ <;> (try simp only [kM, kN, kO])) | (refine Xv ?_; refine qQ ?_) | (refine ZF ?_; try intro _)) <;> ((try simp only [kM, kN, kO]); refine Zf ?_; refine Zi ?_))))
 all_goals (first | refine rNc 13 ?_ | refine ZN 14 ?_)
 all_goals (first | refine ZN 14 ?_ | refine ZN 15 ?_)
 all_goals (first | refine ZN 15 ?_ | refine ZN 16 ?_)
 all_goals (first | refine ZN 16 ?_ | (refine YD (i := 1) (j := 17) ?_ ?_ <;> ((try refine Zh ?_); (first | (refine Zc (.func 117) ?_; refine qC rfl rfl (hcl _ hz1) ?_; rintro v ρ' L' hle ⟨rfl, va, vc, sp, rfl, hown, rfl⟩ <;> (try simp only [kM, kN, kO])) | (refine Xv ?_; refine qQ ?_) | (refine ZF ?_; try intro _)) <;> ((try simp only [kM, kN, kO]); refine Zf ?_; refine Zi ?_))))
 all_goals (first | (refine Zj (i := 17) ?_; ((try refine Zh ?_); (first | (refine Xv ?_; refine qQ ?_) | (refine ZF ?_; try intro _)) <;> ((try simp only [kM, kN, kO]); refine Zf ?_; refine Zi ?_))) | (refine Zj (i := 1) ?_; ((try refine Zh ?_); (first | (refine Zc (.func 117) ?_; refine qC rfl rfl (hcl _ hz1) ?_; rintro v ρ' L' hle ⟨rfl, va, vc, sp, rfl, hown, rfl⟩ <;> (try simp only [kM, kN, kO])) | (refine Xv ?_; refine qQ ?_) | (refine ZF ?_; try intro _)) <;> ((try simp only [kM, kN, kO]); refine Zf ?_; refine Zi ?_))))
 all_goals (refine rNc 18 ?_; refine ZN 19 ?_; refine ZN 20 ?_)
 all_goals (refine Zj (i := 21) ?_; ((try refine Zh ?_); (first | (refine Xv ?_; refine qQ ?_) | (refine ZF ?_; try intro _)) <;> ((try simp only [kM, kN, kO]); refine Zf ?_; refine Zi ?_)))
 all_goals refine Zv ?_
 all_goals (repeat' (first | refine zV ?_ | intro _))
 all_goals refine ZY (ZG (.slice va r.dirty.length vc) (Yy r.dirty) sp 92) (h := by repeat (first | exact ZD | apply ZA)) (fun ρ3 hle3 hfz => ?_)
 all_goals obtain ⟨sa, sc, f1, hsc, hA2⟩ := hown.aIn rfl (fun x _ => WE x) hfz
 all_goals cases f1
 all_goals exact qE (L' := [rdA b { d with ro := ⟨r.nextTxn, d.ro.txns⟩, dv := ⟨va, r.dirty.length, vc⟩, dirty := r.dirty } rv r]) (hle := Hp.le_trans hz1 hle3) ⟨Hp.le_trans hz1 hle3, { d with ro := ⟨r.nextTxn, d.ro.txns⟩, dv := ⟨va, r.dirty.length, vc⟩, dirty := r.dirty }, rfl, ⟨⟨h.r.at'.mono (Hp.le_trans hz1 hle3), fun x hx => (h.r.tx x hx).mono (Hp.le_trans hz1 hle3)⟩, ⟨hA2, by dsimp only; omega, hsc⟩⟩, fun q e => by cases e; rfl, rfl⟩
theorem behind_an_spec (ρ : Hp) (b : Nat) (d : AnD) (h : AnIn ρ d) (rv : RV) (r : Rc) (hr : RcIn ρ rv r) (hG : rosOkP d.ro.p = true) (hok : ZU r = true) (ht : Xs d.dirty = true) :
  Spec Tryz.prog 65 [.pointer (some ⟨b, 0, none⟩)] ρ [rdA b d rv r] (RdPost ρ b (behA d.p r) rv r) := by
 have hf := Xp hok
 have hil := hr.i.at'.len
 have hfl := hf.il
 have hTo := touch_spec ρ d.dv d.dirty h.d (by have := tblB_len (last := -1) (by omega) ht; omega) rv r hr (by omega)
 have e1 : touchE d.dirty r = 0 := by unfold touchE; rw [ht, hok]; rfl
 have e2 : touchR d.dirty r = XW r d.dirty := by unfold touchR; rw [ht, hok]; rfl
 rw [e1, e2] at hTo
 have hT := fun ρ1 (hle : ρ.le ρ1) => rtakes_spec ρ1 b d (h.mono hle) rv r (hr.mono hle) hG hok
 unfold behA tkA
 dsimp only at hT ⊢
 refine Zd Tryz.func65 rfl rfl rfl fun u R => ?_
 simp only [Zo, List.cons_append, List.nil_append]
 by_cases he : YI d.ro.p r = 0
 ·simp only [he, if_true, decide_true] at hT ⊢
  repeat' (first | refine zV ?_ | intro _)
  refine Zu (Zk _ _ ([rdA b d rv r])) (Zw (hT := tk) (Hp.le_refl _)) ?_
  all_goals (refine Zx 0 ?_; refine rNc 1 ?_; refine ZN 2 ?_; refine ZN 3 ?_; refine ZQ 4 ?_; refine Zx 5 ?_; refine rNc 6 ?_; refine ZN 7 ?_; refine ZQ 8 ?_)
  all_goals (refine Zj (i := 9) ?_; ((try refine Zh ?_); (first | (refine Zc (.func 72) ?_; refine qC rfl rfl (hTo) ?_; rintro v ρ' L' hle ⟨hz1, s1, rfl, hs1, rfl⟩ <;> (try simp only [kM, kN, kO])) | (refine ZF ?_; try intro _)) <;> ((try simp only [kM, kN, kO]); refine Zf ?_; refine Zi ?_)))
  all_goals (refine Zz ?_; refine Zx 10 ?_; refine rEx 11 ?_; refine rEx 12 ?_; refine rAs 13 ?_; refine rAs 14 ?_; refine Zv ?_)
  all_goals (repeat' (first | (refine Zc (.func 114) ?_; refine qC rfl rfl (hT _ hz1) ?_; rintro v ρ' L' hle ⟨hz2, d1, rfl, hd1, hp1, rfl⟩ <;> (try simp only [kM, kN, kO])) | refine zV ?_ | intro _))
  all_goals exact qE (L' := [rdA b { d1 with dv := s1, dirty := XW r d.dirty } rv r]) (hle := Hp.le_trans hz1 hz2) ⟨Hp.le_trans hz1 hz2, { d1 with dv := s1, dirty := XW r d.dirty }, rfl, ⟨hd1.r, hs1.mono hz2⟩, fun q e => by cases e; exact congrArg (fun a : AnP => { a with dirty := XW r d.dirty }) hp1, rfl⟩
 ·simp only [he, if_false, decide_false] at hT ⊢
  repeat' (first | refine zV ?_ | intro _)
  refine Zu (Zk _ _ ([rdA b d rv r])) (Zw (hT := tk) (Hp.le_refl _)) ?_
  all_goals (refine Zx 0 ?_; refine rNc 1 ?_; refine ZN 2 ?_; refine ZN 3 ?_; refine ZQ 4 ?_; refine Zx 5 ?_; refine rNc 6 ?_; refine ZN 7 ?_; refine ZQ 8 ?_)
  all_goals (refine Zj (i := 9) ?_; ((try refine Zh ?_); (first | (refine Zc (.func 72) ?_; refine qC rfl rfl (hTo) ?_; rintro v ρ' L' hle ⟨hz1, s1, rfl, hs1, rfl⟩ <;> (try simp only [kM, kN, kO])) | (refine ZF ?_; try intro _)) <;> ((try simp only [kM, kN, kO]); refine Zf ?_; refine Zi ?_)))
  all_goals (refine Zz ?_; refine Zx 10 ?_; refine rEx 11 ?_; refine rEx 12 ?_; refine rAs 13 ?_; refine rAs 14 ?_; refine Zv ?_)
  all_goals (repeat' (first | (refine Zc (.func 114) ?_; refine qC rfl rfl (hT _ hz1) ?_; rintro v ρ' L' hle ⟨hz2, d1, rfl, hd1, hp1, rfl⟩ <;> (try simp only [kM, kN, kO])) | refine zV ?_ | intro _))
  all_goals exact qE (L' := [rdA b d1 rv r]) (hle := Hp.le_trans hz1 hz2) ⟨Hp.le_trans hz1 hz2, d1, rfl, hd1, fun q e => absurd e (by simp), rfl⟩
end Go.Proofs.E
