/- The law RosterMarks. Part 14 of 20. -/
import Derived.Test.YtkbiahafeoillaaGreatU13
namespace Go.Proofs.E
open Go
set_option linter.unusedVariables false
set_option linter.unusedSimpArgs false
set_option linter.unusedSectionVars false
set_option maxRecDepth 4000
set_option maxHeartbeats 1000000
attribute [local irreducible] Yl TL TC TE Spec Wh R1 Hp.le EnvLe TS TR YS Zq
def nextO (o : OpD) (t : TxP) : Nat := if t.stack.length = 0 then t.first else (t.stack.getD (idxU o.n t.stack.length) ⟨0, 0⟩).lsn
def nextU (o : OpD) (t : TxP) : Nat := if t.undo ≤ nextO o t ∧ o.rc.kind = 5 then t.first else nextO o t
def XO (o : OpD) (p : Yh) : Rc :=
 if o.near = true then
  (if o.rc.kind = 1 then { o.rc with lsn := YH p + 1, txn := p.next }
   else if p.txns.length = 0 ∨ o.rc.kind = 9 then { o.rc with lsn := YH p + 1 }
   else if o.rc.kind = 3 ∨ o.rc.kind = 4 ∨ o.rc.kind = 5 then { o.rc with lsn := YH p + 1, txn := (nthT p o.at').num, prev := (nthT p o.at').last, next := nextU o (nthT p o.at') }
   else { o.rc with lsn := YH p + 1, txn := (nthT p o.at').num, prev := (nthT p o.at').last })
 else o.rc
theorem orec_A (ρ : Hp) (o : OpD) (v : SV) (ro : Ros) (h : RosIn ρ v ro) (hL : YH ro.p ≤ 1099511627776) (hC : ¬ (o.rc.kind = 3 ∨ o.rc.kind = 4 ∨ o.rc.kind = 5) ∨ (nthT ro.p o.at').stack.length = 0) : Spec Tryz.prog 41 [.agg ⟨opV o⟩, .agg ⟨Yx v ro⟩] ρ [] (fun z ρ' L' => z = .agg ⟨recV o.rv (XO o ro.p)⟩ ∧ ρ' = ρ ∧ L' = []) := by
 have hl := h.at'.at'.len
 have hbig := h.at'.big
 have hpl : ro.p.txns.length = v.n := by simp [Ros.p, hl]
 have hla := last18_spec ρ v ro h
 have hnx : ro.p.next = ro.next := rfl
 unfold XO nextU nextO
 rw [hpl, hnx]
 obtain ⟨kd, num, n, a', near, rv, rc⟩ := o
 dsimp only at *
 generalize YH ro.p = lp at *
 refine Zg Tryz.func41 rfl rfl rfl fun u R => ?_
 simp only [Zx, List.cons_append, List.nil_append]
 cases near
 ·rw [if_neg (by simp)]
  repeat' (first | (refine ZE ?_; refine Zn (Zd rfl) rfl rfl ?_) | (refine Zj ?_; first | (refine Zf ?_; refine qQ ?_) | refine Zm ?_) | refine Za ?_ | (refine Zi ?_; refine Zt ?_) | (refine Zh ?_; refine Zs ?_) | intro _)
  exact qE (L' := []) ⟨rfl, rfl, rfl⟩
 rw [if_pos rfl]
 by_cases k1 : rc.kind = 1
 ·simp only [if_pos k1]
  repeat' (first | (refine Ze (.func 17) ?_; refine qC rfl rfl (hla) ?_; rintro v ρ' L' hle ⟨rfl, rfl, rfl⟩ <;> (try simp only [kM, kN, kO])) | (refine ZE ?_; refine Zn (Zd rfl) rfl rfl ?_) | (refine Zj ?_; first | (refine Zf ?_; refine qQ ?_) | refine Zm ?_) | refine Za ?_ | (refine Zi ?_; refine Zt ?_) | (refine Zh ?_; refine Zs ?_) | intro _)
  exact qE (L' := []) ⟨rfl, rfl, rfl⟩
 simp only [if_neg k1]
 by_cases h0 : v.n = 0
 ·rw [if_pos (.inl h0)]
  repeat' (first | (refine Ze (.func 17) ?_; refine qC rfl rfl (hla) ?_; rintro v ρ' L' hle ⟨rfl, rfl, rfl⟩ <;> (try simp only [kM, kN, kO])) | (refine ZE ?_; refine Zn (Zd rfl) rfl rfl ?_) | (refine Zj ?_; first | (refine Zf ?_; refine qQ ?_) | refine Zm ?_) | refine Za ?_ | (refine Zi ?_; refine Zt ?_) | (refine Zh ?_; refine Zs ?_) | intro _)
  exact qE (L' := []) ⟨rfl, rfl, rfl⟩
 by_cases k9 : rc.kind = 9
 ·rw [if_pos (.inr k9)]
  repeat' (first | (refine Ze (.func 17) ?_; refine qC rfl rfl (hla) ?_; rintro v ρ' L' hle ⟨rfl, rfl, rfl⟩ <;> (try simp only [kM, kN, kO])) | (refine ZE ?_; refine Zn (Zd rfl) rfl rfl ?_) | (refine Zj ?_; first | (refine Zf ?_; refine qQ ?_) | refine Zm ?_) | refine Za ?_ | (refine Zi ?_; refine Zt ?_) | (refine Zh ?_; refine Zs ?_) | intro _)
  exact qE (L' := []) ⟨rfl, rfl, rfl⟩
 rw [if_neg (show ¬ (v.n = 0 ∨ rc.kind = 9) by omega)]
 obtain ⟨b, off, C, T, fr, x, e1, hb, hfit, hc, hx, hp, hm⟩ := nth_cell h a' (show 0 < v.n by omega)
 obtain ⟨_, hk0, hk1⟩ := idxU_lt a' (show 0 < v.n by omega)
 rw [← hp] at hC ⊢
 clear hp hm
 have hsl := hx.s.len
 have hsb := hx.sb
 simp only [Tx.p] at hC ⊢
 rw [hsl] at hC ⊢
 have hrv : Yx v ro = [.int .i64 ro.next, .slice (some ⟨b, off, none⟩) v.n v.c] := by rw [← e1]
 rw [hrv] at hla ⊢
 by_cases k345 : rc.kind = 3 ∨ rc.kind = 4 ∨ rc.kind = 5
 ·rw [if_pos k345]
  have hs0 : x.sv.n = 0 := by omega
  simp only [if_pos hs0]
  by_cases hh : x.undo ≤ x.first ∧ rc.kind = 5
  case' pos => rw [if_pos hh]
  case' neg => rw [if_neg hh]
  all_goals rcases k345 with k5 | k5 | k5 <;> by_cases hu : x.undo ≤ x.first <;> try (exfalso; omega)
  all_goals
   repeat' (first | (refine Ze (.func 17) ?_; refine qC rfl rfl (hla) ?_; rintro v ρ' L' hle ⟨rfl, rfl, rfl⟩ <;> (try simp only [kM, kN, kO])) | (refine ZE ?_; refine Zn (Zd rfl) rfl rfl ?_) | (refine Zj ?_; first | (refine Zf ?_; refine qQ ?_) | refine Zm ?_) | refine Za ?_ | (refine Zi ?_; refine Zt ?_) | (refine Zh ?_; refine Zs ?_) | intro _)
   refine ZC (Zq _ _ _) ZF ?_
   all_goals (refine ZY 0 ?_; refine Yf 1 ?_; refine ZY 2 ?_; refine Yf 3 ?_; refine rCv 4 ?_; refine ZU 5 ?_; refine rCv 6 ?_; refine rRm 7 ?_; refine rIa 8 ?_; refine Yf 9 ?_)
   all_goals (refine Zp (i := 10) ?_; ((try refine Zk ?_); (first | (refine Zm ?_; try intro _)) <;> ((try simp only [kM, kN, kO]); refine Za ?_; refine Zl ?_)))
   all_goals (refine Zp (i := 11) ?_; ((try refine Zk ?_); (first | (refine Zm ?_; try intro _)) <;> ((try simp only [kM, kN, kO]); refine Za ?_; refine Zl ?_)))
   all_goals refine ZH ?_
   all_goals (repeat' (first | (refine ZE ?_; refine Zn (Zd rfl) rfl rfl ?_) | (refine Zj ?_; first | (refine Zf ?_; refine qQ ?_) | refine Zm ?_) | refine Za ?_ | (refine Zi ?_; refine Zt ?_) | (refine Zh ?_; refine Zs ?_) | intro _))
   all_goals simp only [txV]
   refine ZC (Zq _ _ ([])) (Zy (hT := tk) (Hp.le_refl _)) ?_
   all_goals refine ZY 0 ?_
   all_goals (refine Yo (i := 1) (j := 2) ?_ ?_ <;> ((try refine Zk ?_); (first | (refine Zf ?_; refine qQ ?_) | (refine Zm ?_; try intro _)) <;> ((try simp only [kM, kN, kO]); refine Za ?_; refine Zl ?_)))
   all_goals (first | refine ZY 4 ?_ | (refine Yo (i := 1) (j := 3) ?_ ?_ <;> ((try refine Zk ?_); (first | (refine Zf ?_; refine qQ ?_) | (refine Zm ?_; try intro _)) <;> ((try simp only [kM, kN, kO]); refine Za ?_; refine Zl ?_))))
   all_goals (first | refine ZY 4 ?_ | (refine Yo (i := 2) (j := 5) ?_ ?_ <;> ((try refine Zk ?_); (first | (refine Zf ?_; refine qQ ?_) | (refine Zm ?_; try intro _)) <;> ((try simp only [kM, kN, kO]); refine Za ?_; refine Zl ?_))) | (refine Zp (i := 1) ?_; ((try refine Zk ?_); (first | (refine Zf ?_; refine qQ ?_) | (refine Zm ?_; try intro _)) <;> ((try simp only [kM, kN, kO]); refine Za ?_; refine Zl ?_))))
   all_goals (first | refine ZY 4 ?_ | (refine Yo (i := 3) (j := 5) ?_ ?_ <;> ((try refine Zk ?_); (first | (refine Zf ?_; refine qQ ?_) | (refine Zm ?_; try intro _)) <;> ((try simp only [kM, kN, kO]); refine Za ?_; refine Zl ?_))) | (refine Zp (i := 2) ?_; ((try refine Zk ?_); (first | (refine Zf ?_; refine qQ ?_) | (refine Zm ?_; try intro _)) <;> ((try simp only [kM, kN, kO]); refine Za ?_; refine Zl ?_))))
   all_goals (first | (refine Zp (i := 5) ?_; ((try refine Zk ?_); (first | (refine Zf ?_; refine qQ ?_) | (refine Zm ?_; try intro _)) <;> ((try simp only [kM, kN, kO]); refine Za ?_; refine Zl ?_))) | (refine Zp (i := 3) ?_; ((try refine Zk ?_); (first | (refine Zf ?_; refine qQ ?_) | (refine Zm ?_; try intro _)) <;> ((try simp only [kM, kN, kO]); refine Za ?_; refine Zl ?_))))
   all_goals refine ZY 6 ?_
   all_goals (refine Zp (i := 7) ?_; ((try refine Zk ?_); (first | (refine Zf ?_; refine qQ ?_) | (refine Zm ?_; try intro _)) <;> ((try simp only [kM, kN, kO]); refine Za ?_; refine Zl ?_)))
   all_goals refine ZH ?_
   all_goals (repeat' (first | (refine ZE ?_; refine Zn (Zd rfl) rfl rfl ?_) | (refine Zj ?_; first | (refine Zf ?_; refine qQ ?_) | refine Zm ?_) | refine Za ?_ | (refine Zi ?_; refine Zt ?_) | (refine Zh ?_; refine Zs ?_) | intro _))
   all_goals exact qE (L' := []) ⟨rfl, rfl, rfl⟩
 ·rw [if_neg k345]
  repeat' (first | (refine Ze (.func 17) ?_; refine qC rfl rfl (hla) ?_; rintro v ρ' L' hle ⟨rfl, rfl, rfl⟩ <;> (try simp only [kM, kN, kO])) | (refine ZE ?_; refine Zn (Zd rfl) rfl rfl ?_) | (refine Zj ?_; first | (refine Zf ?_; refine qQ ?_) | refine Zm ?_) | refine Za ?_ | (refine Zi ?_; refine Zt ?_) | (refine Zh ?_; refine Zs ?_) | intro _)
  refine ZC (Zq _ _ _) ZF ?_
  all_goals (refine ZY 0 ?_; refine Yf 1 ?_; refine ZY 2 ?_; refine Yf 3 ?_; refine rCv 4 ?_; refine ZU 5 ?_; refine rCv 6 ?_; refine rRm 7 ?_; refine rIa 8 ?_; refine Yf 9 ?_)
  all_goals (refine Zp (i := 10) ?_; ((try refine Zk ?_); (first | (refine Zm ?_; try intro _)) <;> ((try simp only [kM, kN, kO]); refine Za ?_; refine Zl ?_)))
  all_goals (refine Zp (i := 11) ?_; ((try refine Zk ?_); (first | (refine Zm ?_; try intro _)) <;> ((try simp only [kM, kN, kO]); refine Za ?_; refine Zl ?_)))
  all_goals refine ZH ?_
  all_goals (repeat' (first | (refine ZE ?_; refine Zn (Zd rfl) rfl rfl ?_) | (refine Zj ?_; first | (refine Zf ?_; refine qQ ?_) | refine Zm ?_) | refine Za ?_ | (refine Zi ?_; refine Zt ?_) | (refine Zh ?_; refine Zs ?_) | intro _))
  all_goals simp only [txV]
  refine ZC (Zq _ _ ([])) (Zy (hT := tk) (Hp.le_refl _)) ?_
  all_goals refine ZY 0 ?_
  all_goals (refine Yo (i := 1) (j := 2) ?_ ?_ <;> ((try refine Zk ?_); (first | (refine Zf ?_; refine qQ ?_) | (refine Zm ?_; try intro _)) <;> ((try simp only [kM, kN, kO]); refine Za ?_; refine Zl ?_)))
  all_goals (first | refine ZY 4 ?_ | (refine Yo (i := 1) (j := 3) ?_ ?_ <;> ((try refine Zk ?_); (first | (refine Zf ?_; refine qQ ?_) | (refine Zm ?_; try intro _)) <;> ((try simp only [kM, kN, kO]); refine Za ?_; refine Zl ?_))))
  all_goals (first | refine ZY 4 ?_ | (refine Yo (i := 2) (j := 5) ?_ ?_ <;> ((try refine Zk ?_); (first | (refine Zf ?_; refine qQ ?_) | (refine Zm ?_; try intro _)) <;> ((try simp only [kM, kN, kO]); refine Za ?_; refine Zl ?_))) | (refine Zp (i := 1) ?_; ((try refine Zk ?_); (first | (refine Zf ?_; refine qQ ?_) | (refine Zm ?_; try intro _)) <;> ((try simp only [kM, kN, kO]); refine Za ?_; refine Zl ?_))))
  all_goals (first | refine ZY 4 ?_ | (refine Yo (i := 3) (j := 5) ?_ ?_ <;> ((try refine Zk ?_); (first | (refine Zf ?_; refine qQ ?_) | (refine Zm ?_; try intro _)) <;> ((try simp only [kM, kN, kO]); refine Za ?_; refine Zl ?_))) | (refine Zp (i := 2) ?_; ((try refine Zk ?_); (first | (refine Zf ?_; refine qQ ?_) | (refine Zm ?_; try intro _)) <;> ((try simp only [kM, kN, kO]); refine Za ?_; refine Zl ?_))))
  all_goals (first | (refine Zp (i := 5) ?_; ((try refine Zk ?_); (first | (refine Zf ?_; refine qQ ?_) | (refine Zm ?_; try intro _)) <;> ((try simp only [kM, kN, kO]); refine Za ?_; refine Zl ?_))) | (refine Zp (i := 3) ?_; ((try refine Zk ?_); (first | (refine Zf ?_; refine qQ ?_) | (refine Zm ?_; try intro _)) <;> ((try simp only [kM, kN, kO]); refine Za ?_; refine Zl ?_))))
  all_goals refine ZY 6 ?_
  all_goals (refine Zp (i := 7) ?_; ((try refine Zk ?_); (first | (refine Zf ?_; refine qQ ?_) | (refine Zm ?_; try intro _)) <;> ((try simp only [kM, kN, kO]); refine Za ?_; refine Zl ?_)))
  all_goals refine ZH ?_
  all_goals (repeat' (first | (refine ZE ?_; refine Zn (Zd rfl) rfl rfl ?_) | (refine Zj ?_; first | (refine Zf ?_; refine qQ ?_) | refine Zm ?_) | refine Za ?_ | (refine Zi ?_; refine Zt ?_) | (refine Zh ?_; refine Zs ?_) | intro _))
  all_goals exact qE (L' := []) ⟨rfl, rfl, rfl⟩
theorem orec_N (ρ : Hp) (o : OpD) (v : SV) (ro : Ros) (hn : o.near = false) : Spec Tryz.prog 41 [.agg ⟨opV o⟩, .agg ⟨Yx v ro⟩] ρ [] (fun z ρ' L' => z = .agg ⟨recV o.rv (XO o ro.p)⟩ ∧ ρ' = ρ ∧ L' = []) := by
 obtain ⟨kd, num, n, a', near, rv, rc⟩ := o
 subst hn
 unfold XO
 refine Zg Tryz.func41 rfl rfl rfl fun u R => ?_
 simp only [Zx, List.cons_append, List.nil_append]
 rw [if_neg (by simp)]
 repeat' (first | (refine ZE ?_; refine Zn (Zd rfl) rfl rfl ?_) | (refine Zj ?_; first | (refine Zf ?_; refine qQ ?_) | refine Zm ?_) | refine Za ?_ | (refine Zi ?_; refine Zt ?_) | (refine Zh ?_; refine Zs ?_) | intro _)
 exact qE (L' := []) ⟨rfl, rfl, rfl⟩
theorem orec_B (ρ : Hp) (o : OpD) (v : SV) (ro : Ros) (h : RosIn ρ v ro) (hL : YH ro.p ≤ 1099511627776) (hn : o.near = true) (h0 : 0 < v.n) (k345 : o.rc.kind = 3 ∨ o.rc.kind = 4 ∨ o.rc.kind = 5) (hC : ¬ (nthT ro.p o.at').stack.length = 0) (hu : (nthT ro.p o.at').undo ≤ nextO o (nthT ro.p o.at')) : Spec Tryz.prog 41 [.agg ⟨opV o⟩, .agg ⟨Yx v ro⟩] ρ [] (fun z ρ' L' => z = .agg ⟨recV o.rv (XO o ro.p)⟩ ∧ ρ' = ρ ∧ L' = []) := by
 unfold nextO at hu
 have hl := h.at'.at'.len
 have hbig := h.at'.big
 have hpl : ro.p.txns.length = v.n := by simp [Ros.p, hl]
 have hla := last18_spec ρ v ro h
 have hnx : ro.p.next = ro.next := rfl
 unfold XO nextU nextO
 rw [hpl, hnx]
 obtain ⟨kd, num, n, a', near, rv, rc⟩ := o
 dsimp only at *
 generalize YH ro.p = lp at *
 refine Zg Tryz.func41 rfl rfl rfl fun u R => ?_
 simp only [Zx, List.cons_append, List.nil_append]
 subst hn
 rw [if_pos rfl, if_neg (show ¬ rc.kind = 1 by omega), if_neg (show ¬ (v.n = 0 ∨ rc.kind = 9) by omega), if_pos k345]
 obtain ⟨b, off, C, T, fr, x, e1, hb, hfit, hc, hx, hp, hm⟩ := nth_cell h a' (show 0 < v.n by omega)
 obtain ⟨_, hk0, hk1⟩ := idxU_lt a' (show 0 < v.n by omega)
 rw [← hp] at hC hu ⊢
 clear hp hm
 have hsl := hx.s.len
 have hsb := hx.sb
 simp only [Tx.p] at hC hu ⊢
 rw [hsl] at hC hu ⊢
 have hrv : Yx v ro = [.int .i64 ro.next, .slice (some ⟨b, off, none⟩) v.n v.c] := by rw [← e1]
 rw [hrv] at hla ⊢
 simp only [if_neg hC] at hu ⊢
 obtain ⟨i1, i2, i3⟩ := idxU_lt n (show 0 < x.sv.n by omega)
 obtain ⟨bs, offs, Cs, Ts, frs, es, hbs, hfits, hcs⟩ := hx.s.get (show idxU n x.sv.n < x.stack.length by omega)
 rw [Xe (show idxU n x.sv.n < x.stack.length by omega)] at hu ⊢
 generalize x.stack[idxU n x.sv.n]'(by omega) = y at *
 have hcell : Cs[offs + ((IntKind.u64.wrap n).tmod (x.sv.n : Int)).toNat * 2 + 0]? = some (.int .u64 y.lsn) := cell_at hcs rfl
 by_cases hh : rc.kind = 5
 case' pos => rw [if_pos (And.intro hu hh)]
 case' neg => rw [if_neg (fun e => hh e.2)]
 all_goals rcases k345 with k5 | k5 | k5 <;> try (exfalso; omega)
 all_goals
  repeat' (first | (refine Ze (.func 17) ?_; refine qC rfl rfl (hla) ?_; rintro v ρ' L' hle ⟨rfl, rfl, rfl⟩ <;> (try simp only [kM, kN, kO])) | (refine ZE ?_; refine Zn (Zd rfl) rfl rfl ?_) | (refine Zj ?_; first | (refine Zf ?_; refine qQ ?_) | refine Zm ?_) | refine Za ?_ | (refine Zi ?_; refine Zt ?_) | (refine Zh ?_; refine Zs ?_) | intro _)
  refine ZC (Zq _ _ _) ZF ?_
  all_goals (refine ZY 0 ?_; refine Yf 1 ?_; refine ZY 2 ?_; refine Yf 3 ?_; refine rCv 4 ?_; refine ZU 5 ?_; refine rCv 6 ?_; refine rRm 7 ?_; refine rIa 8 ?_; refine Yf 9 ?_)
  all_goals (refine Zp (i := 10) ?_; ((try refine Zk ?_); (first | (refine Zm ?_; try intro _)) <;> ((try simp only [kM, kN, kO]); refine Za ?_; refine Zl ?_)))
  all_goals (refine Zp (i := 11) ?_; ((try refine Zk ?_); (first | (refine Zm ?_; try intro _)) <;> ((try simp only [kM, kN, kO]); refine Za ?_; refine Zl ?_)))
  all_goals refine ZH ?_
  all_goals (repeat' (first | (refine ZE ?_; refine Zn (Zd rfl) rfl rfl ?_) | (refine Zj ?_; first | (refine Zf ?_; refine qQ ?_) | refine Zm ?_) | refine Za ?_ | (refine Zi ?_; refine Zt ?_) | (refine Zh ?_; refine Zs ?_) | intro _))
  all_goals simp only [txV, es]
  refine ZC (Zq _ _ ([])) (Zy (hT := tk) (Hp.le_refl _)) ?_
  all_goals refine ZY 0 ?_
  all_goals (refine Yo (i := 1) (j := 2) ?_ ?_ <;> ((try refine Zk ?_); (first | (refine Zf ?_; refine qQ ?_) | (refine Zm ?_; try intro _)) <;> ((try simp only [kM, kN, kO]); refine Za ?_; refine Zl ?_)))
  all_goals (first | refine ZY 4 ?_ | (refine Yo (i := 1) (j := 3) ?_ ?_ <;> ((try refine Zk ?_); (first | (refine Zf ?_; refine qQ ?_) | (refine Zm ?_; try intro _)) <;> ((try simp only [kM, kN, kO]); refine Za ?_; refine Zl ?_))))
  all_goals (first | refine ZY 4 ?_ | (refine Yo (i := 2) (j := 5) ?_ ?_ <;> ((try refine Zk ?_); (first | (refine Zf ?_; refine qQ ?_) | (refine Zm ?_; try intro _)) <;> ((try simp only [kM, kN, kO]); refine Za ?_; refine Zl ?_))) | (refine Zp (i := 1) ?_; ((try refine Zk ?_); (first | (refine Zf ?_; refine qQ ?_) | (refine Zm ?_; try intro _)) <;> ((try simp only [kM, kN, kO]); refine Za ?_; refine Zl ?_))))
  all_goals (first | refine ZY 4 ?_ | (refine Yo (i := 3) (j := 5) ?_ ?_ <;> ((try refine Zk ?_); (first | (refine Zf ?_; refine qQ ?_) | (refine Zm ?_; try intro _)) <;> ((try simp only [kM, kN, kO]); refine Za ?_; refine Zl ?_))) | (refine Zp (i := 2) ?_; ((try refine Zk ?_); (first | (refine Zf ?_; refine qQ ?_) | (refine Zm ?_; try intro _)) <;> ((try simp only [kM, kN, kO]); refine Za ?_; refine Zl ?_))))
  all_goals (first | (refine Zp (i := 5) ?_; ((try refine Zk ?_); (first | (refine Zf ?_; refine qQ ?_) | (refine Zm ?_; try intro _)) <;> ((try simp only [kM, kN, kO]); refine Za ?_; refine Zl ?_))) | (refine Zp (i := 3) ?_; ((try refine Zk ?_); (first | (refine Zf ?_; refine qQ ?_) | (refine Zm ?_; try intro _)) <;> ((try simp only [kM, kN, kO]); refine Za ?_; refine Zl ?_))))
  all_goals refine ZY 6 ?_
  all_goals (refine Zp (i := 7) ?_; ((try refine Zk ?_); (first | (refine Zf ?_; refine qQ ?_) | (refine Zm ?_; try intro _)) <;> ((try simp only [kM, kN, kO]); refine Za ?_; refine Zl ?_)))
  all_goals refine ZH ?_
  all_goals (repeat' (first | (refine ZE ?_; refine Zn (Zd rfl) rfl rfl ?_) | (refine Zj ?_; first | (refine Zf ?_; refine qQ ?_) | refine Zm ?_) | refine Za ?_ | (refine Zi ?_; refine Zt ?_) | (refine Zh ?_; refine Zs ?_) | intro _))
  all_goals
   refine ZC (Zq _ _ ([])) (Zy (hT := tk) (Hp.le_refl _)) ?_
   all_goals (refine ZY 0 ?_; refine ZY 2 ?_; refine ZU 5 ?_; refine rCv 6 ?_)
   all_goals (refine Yo (i := 1) (j := 3) ?_ ?_ <;> ((try refine Zk ?_); (first | (refine Zf ?_; refine qQ ?_) | (refine Zm ?_; try intro _)) <;> ((try simp only [kM, kN, kO]); refine Za ?_; refine Zl ?_)))
   all_goals (first | refine rCv 4 ?_ | (refine Zp (i := 3) ?_; ((try refine Zk ?_); (first | (refine Zf ?_; refine qQ ?_) | (refine Zm ?_; try intro _)) <;> ((try simp only [kM, kN, kO]); refine Za ?_; refine Zl ?_))))
   all_goals (first | refine rCv 4 ?_ | refine rRm 7 ?_)
   all_goals (first | refine rRm 7 ?_ | (refine Zp (i := 1) ?_; ((try refine Zk ?_); (first | (refine Zf ?_; refine qQ ?_) | (refine Zm ?_; try intro _)) <;> ((try simp only [kM, kN, kO]); refine Za ?_; refine Zl ?_))))
   all_goals (refine rIa 8 ?_; refine ZY 9 ?_)
   all_goals (refine Zp (i := 10) ?_; ((try refine Zk ?_); (first | (refine Zf ?_; refine qQ ?_) | (refine Zm ?_; try intro _)) <;> ((try simp only [kM, kN, kO]); refine Za ?_; refine Zl ?_)))
   all_goals refine ZY 11 ?_
   all_goals (refine Zp (i := 12) ?_; ((try refine Zk ?_); (first | (refine Zf ?_; refine qQ ?_) | (refine Zm ?_; try intro _)) <;> ((try simp only [kM, kN, kO]); refine Za ?_; refine Zl ?_)))
   all_goals refine ZH ?_
   all_goals (repeat' (first | (refine ZE ?_; refine Zn (Zd rfl) rfl rfl ?_) | (refine Zj ?_; first | (refine Zf ?_; refine qQ ?_) | refine Zm ?_) | refine Za ?_ | (refine Zi ?_; refine Zt ?_) | (refine Zh ?_; refine Zs ?_) | intro _))
   all_goals exact qE (L' := []) ⟨rfl, rfl, rfl⟩
theorem orec_C (ρ : Hp) (o : OpD) (v : SV) (ro : Ros) (h : RosIn ρ v ro) (hL : YH ro.p ≤ 1099511627776) (hn : o.near = true) (h0 : 0 < v.n) (k345 : o.rc.kind = 3 ∨ o.rc.kind = 4 ∨ o.rc.kind = 5) (hC : ¬ (nthT ro.p o.at').stack.length = 0) (hu : ¬ (nthT ro.p o.at').undo ≤ nextO o (nthT ro.p o.at')) : Spec Tryz.prog 41 [.agg ⟨opV o⟩, .agg ⟨Yx v ro⟩] ρ [] (fun z ρ' L' => z = .agg ⟨recV o.rv (XO o ro.p)⟩ ∧ ρ' = ρ ∧ L' = []) := by
 unfold nextO at hu
 have hl := h.at'.at'.len
 have hbig := h.at'.big
 have hpl : ro.p.txns.length = v.n := by simp [Ros.p, hl]
 have hla := last18_spec ρ v ro h
 have hnx : ro.p.next = ro.next := rfl
 unfold XO nextU nextO
 rw [hpl, hnx]
 obtain ⟨kd, num, n, a', near, rv, rc⟩ := o
 dsimp only at *
 generalize YH ro.p = lp at *
 refine Zg Tryz.func41 rfl rfl rfl fun u R => ?_
 simp only [Zx, List.cons_append, List.nil_append]
 subst hn
 rw [if_pos rfl, if_neg (show ¬ rc.kind = 1 by omega), if_neg (show ¬ (v.n = 0 ∨ rc.kind = 9) by omega), if_pos k345]
 obtain ⟨b, off, C, T, fr, x, e1, hb, hfit, hc, hx, hp, hm⟩ := nth_cell h a' (show 0 < v.n by omega)
 obtain ⟨_, hk0, hk1⟩ := idxU_lt a' (show 0 < v.n by omega)
 rw [← hp] at hC hu ⊢
 clear hp hm
 have hsl := hx.s.len
 have hsb := hx.sb
 simp only [Tx.p] at hC hu ⊢
 rw [hsl] at hC hu ⊢
 have hrv : Yx v ro = [.int .i64 ro.next, .slice (some ⟨b, off, none⟩) v.n v.c] := by rw [← e1]
 rw [hrv] at hla ⊢
 simp only [if_neg hC] at hu ⊢
 obtain ⟨i1, i2, i3⟩ := idxU_lt n (show 0 < x.sv.n by omega)
 obtain ⟨bs, offs, Cs, Ts, frs, es, hbs, hfits, hcs⟩ := hx.s.get (show idxU n x.sv.n < x.stack.length by omega)
 rw [Xe (show idxU n x.sv.n < x.stack.length by omega)] at hu ⊢
 generalize x.stack[idxU n x.sv.n]'(by omega) = y at *
 have hcell : Cs[offs + ((IntKind.u64.wrap n).tmod (x.sv.n : Int)).toNat * 2 + 0]? = some (.int .u64 y.lsn) := cell_at hcs rfl
 rw [if_neg (fun e => hu e.1)]
 rcases k345 with k5 | k5 | k5
 all_goals
  repeat' (first | (refine Ze (.func 17) ?_; refine qC rfl rfl (hla) ?_; rintro v ρ' L' hle ⟨rfl, rfl, rfl⟩ <;> (try simp only [kM, kN, kO])) | (refine ZE ?_; refine Zn (Zd rfl) rfl rfl ?_) | (refine Zj ?_; first | (refine Zf ?_; refine qQ ?_) | refine Zm ?_) | refine Za ?_ | (refine Zi ?_; refine Zt ?_) | (refine Zh ?_; refine Zs ?_) | intro _)
  refine ZC (Zq _ _ _) ZF ?_
  all_goals (refine ZY 0 ?_; refine Yf 1 ?_; refine ZY 2 ?_; refine Yf 3 ?_; refine rCv 4 ?_; refine ZU 5 ?_; refine rCv 6 ?_; refine rRm 7 ?_; refine rIa 8 ?_; refine Yf 9 ?_)
  all_goals (refine Zp (i := 10) ?_; ((try refine Zk ?_); (first | (refine Zm ?_; try intro _)) <;> ((try simp only [kM, kN, kO]); refine Za ?_; refine Zl ?_)))
  all_goals (refine Zp (i := 11) ?_; ((try refine Zk ?_); (first | (refine Zm ?_; try intro _)) <;> ((try simp only [kM, kN, kO]); refine Za ?_; refine Zl ?_)))
  all_goals refine ZH ?_
  all_goals (repeat' (first | (refine ZE ?_; refine Zn (Zd rfl) rfl rfl ?_) | (refine Zj ?_; first | (refine Zf ?_; refine qQ ?_) | refine Zm ?_) | refine Za ?_ | (refine Zi ?_; refine Zt ?_) | (refine Zh ?_; refine Zs ?_) | intro _))
  all_goals simp only [txV, es]
  refine ZC (Zq _ _ ([])) (Zy (hT := tk) (Hp.le_refl _)) ?_
  all_goals refine ZY 0 ?_
  all_goals (refine Yo (i := 1) (j := 2) ?_ ?_ <;> ((try refine Zk ?_); (first | (refine Zf ?_; refine qQ ?_) | (refine Zm ?_; try intro _)) <;> ((try simp only [kM, kN, kO]); refine Za ?_; refine Zl ?_)))
  all_goals (first | refine ZY 4 ?_ | (refine Yo (i := 1) (j := 3) ?_ ?_ <;> ((try refine Zk ?_); (first | (refine Zf ?_; refine qQ ?_) | (refine Zm ?_; try intro _)) <;> ((try simp only [kM, kN, kO]); refine Za ?_; refine Zl ?_))))
  all_goals (first | refine ZY 4 ?_ | (refine Yo (i := 2) (j := 5) ?_ ?_ <;> ((try refine Zk ?_); (first | (refine Zf ?_; refine qQ ?_) | (refine Zm ?_; try intro _)) <;> ((try simp only [kM, kN, kO]); refine Za ?_; refine Zl ?_))) | (refine Zp (i := 1) ?_; ((try refine Zk ?_); (first | (refine Zf ?_; refine qQ ?_) | (refine Zm ?_; try intro _)) <;> ((try simp only [kM, kN, kO]); refine Za ?_; refine Zl ?_))))
  all_goals (first | refine ZY 4 ?_ | (refine Yo (i := 3) (j := 5) ?_ ?_ <;> ((try refine Zk ?_); (first | (refine Zf ?_; refine qQ ?_) | (refine Zm ?_; try intro _)) <;> ((try simp only [kM, kN, kO]); refine Za ?_; refine Zl ?_))) | (refine Zp (i := 2) ?_; ((try refine Zk ?_); (first | (refine Zf ?_; refine qQ ?_) | (refine Zm ?_; try intro _)) <;> ((try simp only [kM, kN, kO]); refine Za ?_; refine Zl ?_))))
  all_goals (first | (refine Zp (i := 5) ?_; ((try refine Zk ?_); (first | (refine Zf ?_; refine qQ ?_) | (refine Zm ?_; try intro _)) <;> ((try simp only [kM, kN, kO]); refine Za ?_; refine Zl ?_))) | (refine Zp (i := 3) ?_; ((try refine Zk ?_); (first | (refine Zf ?_; refine qQ ?_) | (refine Zm ?_; try intro _)) <;> ((try simp only [kM, kN, kO]); refine Za ?_; refine Zl ?_))))
  all_goals refine ZY 6 ?_
  all_goals (refine Zp (i := 7) ?_; ((try refine Zk ?_); (first | (refine Zf ?_; refine qQ ?_) | (refine Zm ?_; try intro _)) <;> ((try simp only [kM, kN, kO]); refine Za ?_; refine Zl ?_)))
  all_goals refine ZH ?_
  all_goals (repeat' (first | (refine ZE ?_; refine Zn (Zd rfl) rfl rfl ?_) | (refine Zj ?_; first | (refine Zf ?_; refine qQ ?_) | refine Zm ?_) | refine Za ?_ | (refine Zi ?_; refine Zt ?_) | (refine Zh ?_; refine Zs ?_) | intro _))
  all_goals
   refine ZC (Zq _ _ ([])) (Zy (hT := tk) (Hp.le_refl _)) ?_
   all_goals (refine ZY 0 ?_; refine ZY 2 ?_; refine ZU 5 ?_; refine rCv 6 ?_)
   all_goals (refine Yo (i := 1) (j := 3) ?_ ?_ <;> ((try refine Zk ?_); (first | (refine Zf ?_; refine qQ ?_) | (refine Zm ?_; try intro _)) <;> ((try simp only [kM, kN, kO]); refine Za ?_; refine Zl ?_)))
   all_goals (first | refine rCv 4 ?_ | (refine Zp (i := 3) ?_; ((try refine Zk ?_); (first | (refine Zf ?_; refine qQ ?_) | (refine Zm ?_; try intro _)) <;> ((try simp only [kM, kN, kO]); refine Za ?_; refine Zl ?_))))
   all_goals (first | refine rCv 4 ?_ | refine rRm 7 ?_)
   all_goals (first | refine rRm 7 ?_ | (refine Zp (i := 1) ?_; ((try refine Zk ?_); (first | (refine Zf ?_; refine qQ ?_) | (refine Zm ?_; try intro _)) <;> ((try simp only [kM, kN, kO]); refine Za ?_; refine Zl ?_))))
   all_goals (refine rIa 8 ?_; refine ZY 9 ?_)
   all_goals (refine Zp (i := 10) ?_; ((try refine Zk ?_); (first | (refine Zf ?_; refine qQ ?_) | (refine Zm ?_; try intro _)) <;> ((try simp only [kM, kN, kO]); refine Za ?_; refine Zl ?_)))
   all_goals refine ZY 11 ?_
   all_goals (refine Zp (i := 12) ?_; ((try refine Zk ?_); (first | (refine Zf ?_; refine qQ ?_) | (refine Zm ?_; try intro _)) <;> ((try simp only [kM, kN, kO]); refine Za ?_; refine Zl ?_)))
   all_goals refine ZH ?_
   all_goals (repeat' (first | (refine ZE ?_; refine Zn (Zd rfl) rfl rfl ?_) | (refine Zj ?_; first | (refine Zf ?_; refine qQ ?_) | refine Zm ?_) | refine Za ?_ | (refine Zi ?_; refine Zt ?_) | (refine Zh ?_; refine Zs ?_) | intro _))
   all_goals exact qE (L' := []) ⟨rfl, rfl, rfl⟩
end Go.Proofs.E
