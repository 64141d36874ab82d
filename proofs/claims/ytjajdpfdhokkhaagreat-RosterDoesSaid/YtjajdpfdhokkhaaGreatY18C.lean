/- The law RosterDoes. Part 18c of 20. -/
import Derived.Test.YtjajdpfdhokkhaaGreatY18B
namespace Go.Proofs.E
open Go
set_option linter.unusedVariables false
set_option linter.unusedSimpArgs false
set_option linter.unusedSectionVars false
set_option maxRecDepth 4000
set_option maxHeartbeats 1000000
attribute [local irreducible] Yl TL TC TE Spec Wq R1 Hp.le EnvLe TS TR YS Zs
def Ws (o : OpD) (p : Yr) (L : Nat) : Rc :=
 if o.near = true then
  (if o.rc.kind = 1 then { o.rc with lsn := L, txn := p.next }
   else if p.txns.length = 0 ∨ o.rc.kind = 9 then { o.rc with lsn := L }
   else if o.rc.kind = 3 ∨ o.rc.kind = 4 ∨ o.rc.kind = 5 then { o.rc with lsn := L, txn := (WQ p o.at').num, prev := (WQ p o.at').last, next := nextU o (WQ p o.at') }
   else { o.rc with lsn := L, txn := (WQ p o.at').num, prev := (WQ p o.at').last })
 else o.rc
theorem recOfL_eq (o : OpD) (p : Yr) : Ws o p (XZ p + 1) = recOf o p := rfl
theorem recOfL_in {ρ : Hp} {o : OpD} {p : Yr} {L : Nat} (h : RcIn ρ o.rv o.rc) : RcIn ρ o.rv (Ws o p L) := by
 unfold Ws
 repeat' split
 all_goals exact ⟨h.i, h.im, h.s, h.t, h.d, h.sf⟩
theorem orecL_A (ρ : Hp) (o : OpD) (v : SV) (ro : Ros) (h : RosIn ρ v ro) (L : Nat) (hW : IntKind.u64.wrap (((XZ ro.p : Nat) : Int) + 1) = (L : Int)) (hC : ¬ (o.rc.kind = 3 ∨ o.rc.kind = 4 ∨ o.rc.kind = 5) ∨ (WQ ro.p o.at').stack.length = 0) : Spec Tryz.prog 45 [.agg ⟨opV o⟩, .agg ⟨Yh v ro⟩] ρ [] (fun z ρ' L' => z = .agg ⟨Xh o.rv (Ws o ro.p L)⟩ ∧ ρ' = ρ ∧ L' = []) := by
 have hl := h.at'.at'.len
 have hbig := h.at'.big
 have hpl : ro.p.txns.length = v.n := by simp [Ros.p, hl]
 have hla := last18_spec ρ v ro h
 have hnx : ro.p.next = ro.next := rfl
 unfold Ws nextU nextO
 rw [hpl, hnx]
 obtain ⟨kd, num, n, a', near, rv, rc⟩ := o
 dsimp only at *
 generalize XZ ro.p = lp at *
 refine Zg Tryz.func45 rfl rfl rfl fun u R => ?_
 simp only [Zx, List.cons_append, List.nil_append]
 cases near
 ·rw [if_neg (by simp)]
  repeat' (first | (refine ZE ?_; refine Zo (Zd rfl) rfl rfl ?_) | (refine Zj ?_; first | (refine Zf ?_; refine qQ ?_) | refine Zn ?_) | refine Zb ?_ | (refine Zi ?_; refine Zv ?_) | (refine Zh ?_; refine Zu ?_) | intro _)
  (try rw [hW])
  exact qE (L' := []) ⟨rfl, rfl, rfl⟩
 rw [if_pos rfl]
 by_cases k1 : rc.kind = 1
 ·simp only [if_pos k1]
  repeat' (first | (refine Ze (.func 59) ?_; refine qC rfl rfl (hla) ?_; rintro v ρ' L' hle ⟨rfl, rfl, rfl⟩ <;> (try simp only [kM, kN, kO])) | (refine ZE ?_; refine Zo (Zd rfl) rfl rfl ?_) | (refine Zj ?_; first | (refine Zf ?_; refine qQ ?_) | refine Zn ?_) | refine Zb ?_ | (refine Zi ?_; refine Zv ?_) | (refine Zh ?_; refine Zu ?_) | intro _)
  (try rw [hW])
  exact qE (L' := []) ⟨rfl, rfl, rfl⟩
 simp only [if_neg k1]
 by_cases h0 : v.n = 0
 ·rw [if_pos (.inl h0)]
  repeat' (first | (refine Ze (.func 59) ?_; refine qC rfl rfl (hla) ?_; rintro v ρ' L' hle ⟨rfl, rfl, rfl⟩ <;> (try simp only [kM, kN, kO])) | (refine ZE ?_; refine Zo (Zd rfl) rfl rfl ?_) | (refine Zj ?_; first | (refine Zf ?_; refine qQ ?_) | refine Zn ?_) | refine Zb ?_ | (refine Zi ?_; refine Zv ?_) | (refine Zh ?_; refine Zu ?_) | intro _)
  (try rw [hW])
  exact qE (L' := []) ⟨rfl, rfl, rfl⟩
 by_cases k9 : rc.kind = 9
 ·rw [if_pos (.inr k9)]
  repeat' (first | (refine Ze (.func 59) ?_; refine qC rfl rfl (hla) ?_; rintro v ρ' L' hle ⟨rfl, rfl, rfl⟩ <;> (try simp only [kM, kN, kO])) | (refine ZE ?_; refine Zo (Zd rfl) rfl rfl ?_) | (refine Zj ?_; first | (refine Zf ?_; refine qQ ?_) | refine Zn ?_) | refine Zb ?_ | (refine Zi ?_; refine Zv ?_) | (refine Zh ?_; refine Zu ?_) | intro _)
  (try rw [hW])
  exact qE (L' := []) ⟨rfl, rfl, rfl⟩
 rw [if_neg (show ¬ (v.n = 0 ∨ rc.kind = 9) by omega)]
 obtain ⟨b, off, C, T, fr, x, e1, hb, hfit, hc, hx, hp, hm⟩ := nth_cell h a' (show 0 < v.n by omega)
 obtain ⟨_, hk0, hk1⟩ := idxU_lt a' (show 0 < v.n by omega)
 rw [← hp] at hC ⊢
 clear hp hm
 have hsl := hx.s.len
 have hsb := hx.sb
 simp only [Tx.p] at hC ⊢
 rw [hsl] at hC ⊢
 have hrv : Yh v ro = [.int .i64 ro.next, .slice (some ⟨b, off, none⟩) v.n v.c] := by rw [← e1]
 rw [hrv] at hla ⊢
 by_cases k345 : rc.kind = 3 ∨ rc.kind = 4 ∨ rc.kind = 5
 ·rw [if_pos k345]
  have hs0 : x.sv.n = 0 := by omega
  simp only [if_pos hs0]
  by_cases hh : x.undo ≤ x.first ∧ rc.kind = 5
  case' pos => rw [if_pos hh]
  case' neg => rw [if_neg hh]
  all_goals rcases k345 with k5 | k5 | k5 <;> by_cases hu : x.undo ≤ x.first <;> try (exfalso; omega)
  all_goals
   repeat' (first | (refine Ze (.func 59) ?_; refine qC rfl rfl (hla) ?_; rintro v ρ' L' hle ⟨rfl, rfl, rfl⟩ <;> (try simp only [kM, kN, kO])) | (refine ZE ?_; refine Zo (Zd rfl) rfl rfl ?_) | (refine Zj ?_; first | (refine Zf ?_; refine qQ ?_) | refine Zn ?_) | refine Zb ?_ | (refine Zi ?_; refine Zv ?_) | (refine Zh ?_; refine Zu ?_) | intro _)
   refine ZD (Zs _ _ _) ZF ?_
   all_goals (refine ZS 0 ?_; refine ZX 1 ?_; refine ZS 2 ?_; refine ZX 3 ?_; refine rCv 4 ?_; refine ZT 5 ?_; refine rCv 6 ?_; refine rRm 7 ?_; refine rIa 8 ?_; refine ZX 9 ?_)
   all_goals (refine Zp (i := 10) ?_; ((try refine Zk ?_); (first | (refine Zn ?_; try intro _)) <;> ((try simp only [kM, kN, kO]); refine Zb ?_; refine Zl ?_)))
   all_goals (refine Zp (i := 11) ?_; ((try refine Zk ?_); (first | (refine Zn ?_; try intro _)) <;> ((try simp only [kM, kN, kO]); refine Zb ?_; refine Zl ?_)))
   all_goals refine ZI ?_
   all_goals (repeat' (first | (refine ZE ?_; refine Zo (Zd rfl) rfl rfl ?_) | (refine Zj ?_; first | (refine Zf ?_; refine qQ ?_) | refine Zn ?_) | refine Zb ?_ | (refine Zi ?_; refine Zv ?_) | (refine Zh ?_; refine Zu ?_) | intro _))
   all_goals simp only [Ym]
   refine ZD (Zs _ _ ([])) (Zz (hT := tk) (Hp.le_refl _)) ?_
   all_goals refine ZS 0 ?_
   all_goals (refine Ye (i := 1) (j := 2) ?_ ?_ <;> ((try refine Zk ?_); (first | (refine Zf ?_; refine qQ ?_) | (refine Zn ?_; try intro _)) <;> ((try simp only [kM, kN, kO]); refine Zb ?_; refine Zl ?_)))
   all_goals (first | refine ZS 4 ?_ | (refine Ye (i := 1) (j := 3) ?_ ?_ <;> ((try refine Zk ?_); (first | (refine Zf ?_; refine qQ ?_) | (refine Zn ?_; try intro _)) <;> ((try simp only [kM, kN, kO]); refine Zb ?_; refine Zl ?_))))
   all_goals (first | refine ZS 4 ?_ | (refine Ye (i := 2) (j := 5) ?_ ?_ <;> ((try refine Zk ?_); (first | (refine Zf ?_; refine qQ ?_) | (refine Zn ?_; try intro _)) <;> ((try simp only [kM, kN, kO]); refine Zb ?_; refine Zl ?_))) | (refine Zp (i := 1) ?_; ((try refine Zk ?_); (first | (refine Zf ?_; refine qQ ?_) | (refine Zn ?_; try intro _)) <;> ((try simp only [kM, kN, kO]); refine Zb ?_; refine Zl ?_))))
   all_goals (first | refine ZS 4 ?_ | (refine Ye (i := 3) (j := 5) ?_ ?_ <;> ((try refine Zk ?_); (first | (refine Zf ?_; refine qQ ?_) | (refine Zn ?_; try intro _)) <;> ((try simp only [kM, kN, kO]); refine Zb ?_; refine Zl ?_))) | (refine Zp (i := 2) ?_; ((try refine Zk ?_); (first | (refine Zf ?_; refine qQ ?_) | (refine Zn ?_; try intro _)) <;> ((try simp only [kM, kN, kO]); refine Zb ?_; refine Zl ?_))))
   all_goals (first | (refine Zp (i := 5) ?_; ((try refine Zk ?_); (first | (refine Zf ?_; refine qQ ?_) | (refine Zn ?_; try intro _)) <;> ((try simp only [kM, kN, kO]); refine Zb ?_; refine Zl ?_))) | (refine Zp (i := 3) ?_; ((try refine Zk ?_); (first | (refine Zf ?_; refine qQ ?_) | (refine Zn ?_; try intro _)) <;> ((try simp only [kM, kN, kO]); refine Zb ?_; refine Zl ?_))))
   all_goals refine ZS 6 ?_
   all_goals (refine Zp (i := 7) ?_; ((try refine Zk ?_); (first | (refine Zf ?_; refine qQ ?_) | (refine Zn ?_; try intro _)) <;> ((try simp only [kM, kN, kO]); refine Zb ?_; refine Zl ?_)))
   all_goals refine ZI ?_
   all_goals (repeat' (first | (refine ZE ?_; refine Zo (Zd rfl) rfl rfl ?_) | (refine Zj ?_; first | (refine Zf ?_; refine qQ ?_) | refine Zn ?_) | refine Zb ?_ | (refine Zi ?_; refine Zv ?_) | (refine Zh ?_; refine Zu ?_) | intro _))
   all_goals ((try rw [hW]); exact qE (L' := []) ⟨rfl, rfl, rfl⟩)
 ·rw [if_neg k345]
  repeat' (first | (refine Ze (.func 59) ?_; refine qC rfl rfl (hla) ?_; rintro v ρ' L' hle ⟨rfl, rfl, rfl⟩ <;> (try simp only [kM, kN, kO])) | (refine ZE ?_; refine Zo (Zd rfl) rfl rfl ?_) | (refine Zj ?_; first | (refine Zf ?_; refine qQ ?_) | refine Zn ?_) | refine Zb ?_ | (refine Zi ?_; refine Zv ?_) | (refine Zh ?_; refine Zu ?_) | intro _)
  refine ZD (Zs _ _ _) ZF ?_
  all_goals (refine ZS 0 ?_; refine ZX 1 ?_; refine ZS 2 ?_; refine ZX 3 ?_; refine rCv 4 ?_; refine ZT 5 ?_; refine rCv 6 ?_; refine rRm 7 ?_; refine rIa 8 ?_; refine ZX 9 ?_)
  all_goals (refine Zp (i := 10) ?_; ((try refine Zk ?_); (first | (refine Zn ?_; try intro _)) <;> ((try simp only [kM, kN, kO]); refine Zb ?_; refine Zl ?_)))
  all_goals (refine Zp (i := 11) ?_; ((try refine Zk ?_); (first | (refine Zn ?_; try intro _)) <;> ((try simp only [kM, kN, kO]); refine Zb ?_; refine Zl ?_)))
  all_goals refine ZI ?_
  all_goals (repeat' (first | (refine ZE ?_; refine Zo (Zd rfl) rfl rfl ?_) | (refine Zj ?_; first | (refine Zf ?_; refine qQ ?_) | refine Zn ?_) | refine Zb ?_ | (refine Zi ?_; refine Zv ?_) | (refine Zh ?_; refine Zu ?_) | intro _))
  all_goals simp only [Ym]
  refine ZD (Zs _ _ ([])) (Zz (hT := tk) (Hp.le_refl _)) ?_
  all_goals refine ZS 0 ?_
  all_goals (refine Ye (i := 1) (j := 2) ?_ ?_ <;> ((try refine Zk ?_); (first | (refine Zf ?_; refine qQ ?_) | (refine Zn ?_; try intro _)) <;> ((try simp only [kM, kN, kO]); refine Zb ?_; refine Zl ?_)))
  all_goals (first | refine ZS 4 ?_ | (refine Ye (i := 1) (j := 3) ?_ ?_ <;> ((try refine Zk ?_); (first | (refine Zf ?_; refine qQ ?_) | (refine Zn ?_; try intro _)) <;> ((try simp only [kM, kN, kO]); refine Zb ?_; refine Zl ?_))))
  all_goals (first | refine ZS 4 ?_ | (refine Ye (i := 2) (j := 5) ?_ ?_ <;> ((try refine Zk ?_); (first | (refine Zf ?_; refine qQ ?_) | (refine Zn ?_; try intro _)) <;> ((try simp only [kM, kN, kO]); refine Zb ?_; refine Zl ?_))) | (refine Zp (i := 1) ?_; ((try refine Zk ?_); (first | (refine Zf ?_; refine qQ ?_) | (refine Zn ?_; try intro _)) <;> ((try simp only [kM, kN, kO]); refine Zb ?_; refine Zl ?_))))
  all_goals (first | refine ZS 4 ?_ | (refine Ye (i := 3) (j := 5) ?_ ?_ <;> ((try refine Zk ?_); (first | (refine Zf ?_; refine qQ ?_) | (refine Zn ?_; try intro _)) <;> ((try simp only [kM, kN, kO]); refine Zb ?_; refine Zl ?_))) | (refine Zp (i := 2) ?_; ((try refine Zk ?_); (first | (refine Zf ?_; refine qQ ?_) | (refine Zn ?_; try intro _)) <;> ((try simp only [kM, kN, kO]); refine Zb ?_; refine Zl ?_))))
  all_goals (first | (refine Zp (i := 5) ?_; ((try refine Zk ?_); (first | (refine Zf ?_; refine qQ ?_) | (refine Zn ?_; try intro _)) <;> ((try simp only [kM, kN, kO]); refine Zb ?_; refine Zl ?_))) | (refine Zp (i := 3) ?_; ((try refine Zk ?_); (first | (refine Zf ?_; refine qQ ?_) | (refine Zn ?_; try intro _)) <;> ((try simp only [kM, kN, kO]); refine Zb ?_; refine Zl ?_))))
  all_goals refine ZS 6 ?_
  all_goals (refine Zp (i := 7) ?_; ((try refine Zk ?_); (first | (refine Zf ?_; refine qQ ?_) | (refine Zn ?_; try intro _)) <;> ((try simp only [kM, kN, kO]); refine Zb ?_; refine Zl ?_)))
  all_goals refine ZI ?_
  all_goals (repeat' (first | (refine ZE ?_; refine Zo (Zd rfl) rfl rfl ?_) | (refine Zj ?_; first | (refine Zf ?_; refine qQ ?_) | refine Zn ?_) | refine Zb ?_ | (refine Zi ?_; refine Zv ?_) | (refine Zh ?_; refine Zu ?_) | intro _))
  all_goals ((try rw [hW]); exact qE (L' := []) ⟨rfl, rfl, rfl⟩)
theorem orecL_N (ρ : Hp) (o : OpD) (v : SV) (ro : Ros) (L : Nat) (hn : o.near = false) : Spec Tryz.prog 45 [.agg ⟨opV o⟩, .agg ⟨Yh v ro⟩] ρ [] (fun z ρ' L' => z = .agg ⟨Xh o.rv (Ws o ro.p L)⟩ ∧ ρ' = ρ ∧ L' = []) := by
 obtain ⟨kd, num, n, a', near, rv, rc⟩ := o
 subst hn
 unfold Ws
 refine Zg Tryz.func45 rfl rfl rfl fun u R => ?_
 simp only [Zx, List.cons_append, List.nil_append]
 rw [if_neg (by simp)]
 repeat' (first | (refine ZE ?_; refine Zo (Zd rfl) rfl rfl ?_) | (refine Zj ?_; first | (refine Zf ?_; refine qQ ?_) | refine Zn ?_) | refine Zb ?_ | (refine Zi ?_; refine Zv ?_) | (refine Zh ?_; refine Zu ?_) | intro _)
 exact qE (L' := []) ⟨rfl, rfl, rfl⟩
theorem orecL_B (ρ : Hp) (o : OpD) (v : SV) (ro : Ros) (h : RosIn ρ v ro) (L : Nat) (hW : IntKind.u64.wrap (((XZ ro.p : Nat) : Int) + 1) = (L : Int)) (hn : o.near = true) (h0 : 0 < v.n) (k345 : o.rc.kind = 3 ∨ o.rc.kind = 4 ∨ o.rc.kind = 5) (hC : ¬ (WQ ro.p o.at').stack.length = 0) (hu : (WQ ro.p o.at').undo ≤ nextO o (WQ ro.p o.at')) : Spec Tryz.prog 45 [.agg ⟨opV o⟩, .agg ⟨Yh v ro⟩] ρ [] (fun z ρ' L' => z = .agg ⟨Xh o.rv (Ws o ro.p L)⟩ ∧ ρ' = ρ ∧ L' = []) := by
 unfold nextO at hu
 have hl := h.at'.at'.len
 have hbig := h.at'.big
 have hpl : ro.p.txns.length = v.n := by simp [Ros.p, hl]
 have hla := last18_spec ρ v ro h
 have hnx : ro.p.next = ro.next := rfl
 unfold Ws nextU nextO
 rw [hpl, hnx]
 obtain ⟨kd, num, n, a', near, rv, rc⟩ := o
 dsimp only at *
 generalize XZ ro.p = lp at *
 refine Zg Tryz.func45 rfl rfl rfl fun u R => ?_
 simp only [Zx, List.cons_append, List.nil_append]
 subst hn
 rw [if_pos rfl, if_neg (show ¬ rc.kind = 1 by omega), if_neg (show ¬ (v.n = 0 ∨ rc.kind = 9) by omega), if_pos k345]
 obtain ⟨b, off, C, T, fr, x, e1, hb, hfit, hc, hx, hp, hm⟩ := nth_cell h a' (show 0 < v.n by omega)
 obtain ⟨_, hk0, hk1⟩ := idxU_lt a' (show 0 < v.n by omega)
 rw [← hp] at hC hu ⊢
 clear hp hm
 have hsl := hx.s.len
 have hsb := hx.sb
 simp only [Tx.p] at hC hu ⊢
 rw [hsl] at hC hu ⊢
 have hrv : Yh v ro = [.int .i64 ro.next, .slice (some ⟨b, off, none⟩) v.n v.c] := by rw [← e1]
 rw [hrv] at hla ⊢
 simp only [if_neg hC] at hu ⊢
 obtain ⟨i1, i2, i3⟩ := idxU_lt n (show 0 < x.sv.n by omega)
 obtain ⟨bs, offs, Cs, Ts, frs, es, hbs, hfits, hcs⟩ := hx.s.get (show idxU n x.sv.n < x.stack.length by omega)
 rw [YW (show idxU n x.sv.n < x.stack.length by omega)] at hu ⊢
 generalize x.stack[idxU n x.sv.n]'(by omega) = y at *
 have hcell : Cs[offs + ((IntKind.u64.wrap n).tmod (x.sv.n : Int)).toNat * 2 + 0]? = some (.int .u64 y.lsn) := cell_at hcs rfl
 by_cases hh : rc.kind = 5
 case' pos => rw [if_pos (And.intro hu hh)]
 case' neg => rw [if_neg (fun e => hh e.2)]
 all_goals rcases k345 with k5 | k5 | k5 <;> try (exfalso; omega)
 all_goals
  repeat' (first | (refine Ze (.func 59) ?_; refine qC rfl rfl (hla) ?_; rintro v ρ' L' hle ⟨rfl, rfl, rfl⟩ <;> (try simp only [kM, kN, kO])) | (refine ZE ?_; refine Zo (Zd rfl) rfl rfl ?_) | (refine Zj ?_; first | (refine Zf ?_; refine qQ ?_) | refine Zn ?_) | refine Zb ?_ | (refine Zi ?_; refine Zv ?_) | (refine Zh ?_; refine Zu ?_) | intro _)
  refine ZD (Zs _ _ _) ZF ?_
  all_goals (refine ZS 0 ?_; refine ZX 1 ?_; refine ZS 2 ?_; refine ZX 3 ?_; refine rCv 4 ?_; refine ZT 5 ?_; refine rCv 6 ?_; refine rRm 7 ?_; refine rIa 8 ?_; refine ZX 9 ?_)
  all_goals (refine Zp (i := 10) ?_; ((try refine Zk ?_); (first | (refine Zn ?_; try intro _)) <;> ((try simp only [kM, kN, kO]); refine Zb ?_; refine Zl ?_)))
  all_goals (refine Zp (i := 11) ?_; ((try refine Zk ?_); (first | (refine Zn ?_; try intro _)) <;> ((try simp only [kM, kN, kO]); refine Zb ?_; refine Zl ?_)))
  all_goals refine ZI ?_
  all_goals (repeat' (first | (refine ZE ?_; refine Zo (Zd rfl) rfl rfl ?_) | (refine Zj ?_; first | (refine Zf ?_; refine qQ ?_) | refine Zn ?_) | refine Zb ?_ | (refine Zi ?_; refine Zv ?_) | (refine Zh ?_; refine Zu ?_) | intro _))
  all_goals simp only [Ym, es]
  refine ZD (Zs _ _ ([])) (Zz (hT := tk) (Hp.le_refl _)) ?_
  all_goals refine ZS 0 ?_
  all_goals (refine Ye (i := 1) (j := 2) ?_ ?_ <;> ((try refine Zk ?_); (first | (refine Zf ?_; refine qQ ?_) | (refine Zn ?_; try intro _)) <;> ((try simp only [kM, kN, kO]); refine Zb ?_; refine Zl ?_)))
  all_goals (first | refine ZS 4 ?_ | (refine Ye (i := 1) (j := 3) ?_ ?_ <;> ((try refine Zk ?_); (first | (refine Zf ?_; refine qQ ?_) | (refine Zn ?_; try intro _)) <;> ((try simp only [kM, kN, kO]); refine Zb ?_; refine Zl ?_))))
  all_goals (first | refine ZS 4 ?_ | (refine Ye (i := 2) (j := 5) ?_ ?_ <;> ((try refine Zk ?_); (first | (refine Zf ?_; refine qQ ?_) | (refine Zn ?_; try intro _)) <;> ((try simp only [kM, kN, kO]); refine Zb ?_; refine Zl ?_))) | (refine Zp (i := 1) ?_; ((try refine Zk ?_); (first | (refine Zf ?_; refine qQ ?_) | (refine Zn ?_; try intro _)) <;> ((try simp only [kM, kN, kO]); refine Zb ?_; refine Zl ?_))))
  all_goals (first | refine ZS 4 ?_ | (refine Ye (i := 3) (j := 5) ?_ ?_ <;> ((try refine Zk ?_); (first | (refine Zf ?_; refine qQ ?_) | (refine Zn ?_; try intro _)) <;> ((try simp only [kM, kN, kO]); refine Zb ?_; refine Zl ?_))) | (refine Zp (i := 2) ?_; ((try refine Zk ?_); (first | (refine Zf ?_; refine qQ ?_) | (refine Zn ?_; try intro _)) <;> ((try simp only [kM, kN, kO]); refine Zb ?_; refine Zl ?_))))
  all_goals (first | (refine Zp (i := 5) ?_; ((try refine Zk ?_); (first | (refine Zf ?_; refine qQ ?_) | (refine Zn ?_; try intro _)) <;> ((try simp only [kM, kN, kO]); refine Zb ?_; refine Zl ?_))) | (refine Zp (i := 3) ?_; ((try refine Zk ?_); (first | (refine Zf ?_; refine qQ ?_) | (refine Zn ?_; try intro _)) <;> ((try simp only [kM, kN, kO]); refine Zb ?_; refine Zl ?_))))
  all_goals refine ZS 6 ?_
  all_goals (refine Zp (i := 7) ?_; ((try refine Zk ?_); (first | (refine Zf ?_; refine qQ ?_) | (refine Zn ?_; try intro _)) <;> ((try simp only [kM, kN, kO]); refine Zb ?_; refine Zl ?_)))
  all_goals refine ZI ?_
  all_goals (repeat' (first | (refine ZE ?_; refine Zo (Zd rfl) rfl rfl ?_) | (refine Zj ?_; first | (refine Zf ?_; refine qQ ?_) | refine Zn ?_) | refine Zb ?_ | (refine Zi ?_; refine Zv ?_) | (refine Zh ?_; refine Zu ?_) | intro _))
  all_goals
   refine ZD (Zs _ _ ([])) (Zz (hT := tk) (Hp.le_refl _)) ?_
   all_goals (refine ZS 0 ?_; refine ZS 2 ?_; refine ZT 5 ?_; refine rCv 6 ?_)
   all_goals (refine Ye (i := 1) (j := 3) ?_ ?_ <;> ((try refine Zk ?_); (first | (refine Zf ?_; refine qQ ?_) | (refine Zn ?_; try intro _)) <;> ((try simp only [kM, kN, kO]); refine Zb ?_; refine Zl ?_)))
   all_goals (first | refine rCv 4 ?_ | (refine Zp (i := 3) ?_; ((try refine Zk ?_); (first | (refine Zf ?_; refine qQ ?_) | (refine Zn ?_; try intro _)) <;> ((try simp only [kM, kN, kO]); refine Zb ?_; refine Zl ?_))))
   all_goals (first | refine rCv 4 ?_ | refine rRm 7 ?_)
   all_goals (first | refine rRm 7 ?_ | (refine Zp (i := 1) ?_; ((try refine Zk ?_); (first | (refine Zf ?_; refine qQ ?_) | (refine Zn ?_; try intro _)) <;> ((try simp only [kM, kN, kO]); refine Zb ?_; refine Zl ?_))))
   all_goals (refine rIa 8 ?_; refine ZS 9 ?_)
   all_goals (refine Zp (i := 10) ?_; ((try refine Zk ?_); (first | (refine Zf ?_; refine qQ ?_) | (refine Zn ?_; try intro _)) <;> ((try simp only [kM, kN, kO]); refine Zb ?_; refine Zl ?_)))
   all_goals refine ZS 11 ?_
   all_goals (refine Zp (i := 12) ?_; ((try refine Zk ?_); (first | (refine Zf ?_; refine qQ ?_) | (refine Zn ?_; try intro _)) <;> ((try simp only [kM, kN, kO]); refine Zb ?_; refine Zl ?_)))
   all_goals refine ZI ?_
   all_goals (repeat' (first | (refine ZE ?_; refine Zo (Zd rfl) rfl rfl ?_) | (refine Zj ?_; first | (refine Zf ?_; refine qQ ?_) | refine Zn ?_) | refine Zb ?_ | (refine Zi ?_; refine Zv ?_) | (refine Zh ?_; refine Zu ?_) | intro _))
   all_goals ((try rw [hW]); exact qE (L' := []) ⟨rfl, rfl, rfl⟩)
theorem orecL_C (ρ : Hp) (o : OpD) (v : SV) (ro : Ros) (h : RosIn ρ v ro) (L : Nat) (hW : IntKind.u64.wrap (((XZ ro.p : Nat) : Int) + 1) = (L : Int)) (hn : o.near = true) (h0 : 0 < v.n) (k345 : o.rc.kind = 3 ∨ o.rc.kind = 4 ∨ o.rc.kind = 5) (hC : ¬ (WQ ro.p o.at').stack.length = 0) (hu : ¬ (WQ ro.p o.at').undo ≤ nextO o (WQ ro.p o.at')) : Spec Tryz.prog 45 [.agg ⟨opV o⟩, .agg ⟨Yh v ro⟩] ρ [] (fun z ρ' L' => z = .agg ⟨Xh o.rv (Ws o ro.p L)⟩ ∧ ρ' = ρ ∧ L' = []) := by
 unfold nextO at hu
 have hl := h.at'.at'.len
 have hbig := h.at'.big
 have hpl : ro.p.txns.length = v.n := by simp [Ros.p, hl]
 have hla := last18_spec ρ v ro h
 have hnx : ro.p.next = ro.next := rfl
 unfold Ws nextU nextO
 rw [hpl, hnx]
 obtain ⟨kd, num, n, a', near, rv, rc⟩ := o
 dsimp only at *
 generalize XZ ro.p = lp at *
 refine Zg Tryz.func45 rfl rfl rfl fun u R => ?_
 simp only [Zx, List.cons_append, List.nil_append]
 subst hn
 rw [if_pos rfl, if_neg (show ¬ rc.kind = 1 by omega), if_neg (show ¬ (v.n = 0 ∨ rc.kind = 9) by omega), if_pos k345]
 obtain ⟨b, off, C, T, fr, x, e1, hb, hfit, hc, hx, hp, hm⟩ := nth_cell h a' (show 0 < v.n by omega)
 obtain ⟨_, hk0, hk1⟩ := idxU_lt a' (show 0 < v.n by omega)
 rw [← hp] at hC hu ⊢
 clear hp hm
 have hsl := hx.s.len
 have hsb := hx.sb
 simp only [Tx.p] at hC hu ⊢
 rw [hsl] at hC hu ⊢
 have hrv : Yh v ro = [.int .i64 ro.next, .slice (some ⟨b, off, none⟩) v.n v.c] := by rw [← e1]
 rw [hrv] at hla ⊢
 simp only [if_neg hC] at hu ⊢
 obtain ⟨i1, i2, i3⟩ := idxU_lt n (show 0 < x.sv.n by omega)
 obtain ⟨bs, offs, Cs, Ts, frs, es, hbs, hfits, hcs⟩ := hx.s.get (show idxU n x.sv.n < x.stack.length by omega)
 rw [YW (show idxU n x.sv.n < x.stack.length by omega)] at hu ⊢
 generalize x.stack[idxU n x.sv.n]'(by omega) = y at *
 have hcell : Cs[offs + ((IntKind.u64.wrap n).tmod (x.sv.n : Int)).toNat * 2 + 0]? = some (.int .u64 y.lsn) := cell_at hcs rfl
 rw [if_neg (fun e => hu e.1)]
 rcases k345 with k5 | k5 | k5
 all_goals
  repeat' (first | (refine Ze (.func 59) ?_; refine qC rfl rfl (hla) ?_; rintro v ρ' L' hle ⟨rfl, rfl, rfl⟩ <;> (try simp only [kM, kN, kO])) | (refine ZE ?_; refine Zo (Zd rfl) rfl rfl ?_) | (refine Zj ?_; first | (refine Zf ?_; refine qQ ?_) | refine Zn ?_) | refine Zb ?_ | (refine Zi ?_; refine Zv ?_) | (refine Zh ?_; refine Zu ?_) | intro _)
  refine ZD (Zs _ _ _) ZF ?_
  all_goals (refine ZS 0 ?_; refine ZX 1 ?_; refine ZS 2 ?_; refine ZX 3 ?_; refine rCv 4 ?_; refine ZT 5 ?_; refine rCv 6 ?_; refine rRm 7 ?_; refine rIa 8 ?_; refine ZX 9 ?_)
  all_goals (refine Zp (i := 10) ?_; ((try refine Zk ?_); (first | (refine Zn ?_; try intro _)) <;> ((try simp only [kM, kN, kO]); refine Zb ?_; refine Zl ?_)))
  all_goals (refine Zp (i := 11) ?_; ((try refine Zk ?_); (first | (refine Zn ?_; try intro _)) <;> ((try simp only [kM, kN, kO]); refine Zb ?_; refine Zl ?_)))
  all_goals refine ZI ?_
  all_goals (repeat' (first | (refine ZE ?_; refine Zo (Zd rfl) rfl rfl ?_) | (refine Zj ?_; first | (refine Zf ?_; refine qQ ?_) | refine Zn ?_) | refine Zb ?_ | (refine Zi ?_; refine Zv ?_) | (refine Zh ?_; refine Zu ?_) | intro _))
  all_goals simp only [Ym, es]
  refine ZD (Zs _ _ ([])) (Zz (hT := tk) (Hp.le_refl _)) ?_
  all_goals refine ZS 0 ?_
  all_goals (refine Ye (i := 1) (j := 2) ?_ ?_ <;> ((try refine Zk ?_); (first | (refine Zf ?_; refine qQ ?_) | (refine Zn ?_; try intro _)) <;> ((try simp only [kM, kN, kO]); refine Zb ?_; refine Zl ?_)))
  all_goals (first | refine ZS 4 ?_ | (refine Ye (i := 1) (j := 3) ?_ ?_ <;> ((try refine Zk ?_); (first | (refine Zf ?_; refine qQ ?_) | (refine Zn ?_; try intro _)) <;> ((try simp only [kM, kN, kO]); refine Zb ?_; refine Zl ?_))))
  all_goals (first | refine ZS 4 ?_ | (refine Ye (i := 2) (j := 5) ?_ ?_ <;> ((try refine Zk ?_); (first | (refine Zf ?_; refine qQ ?_) | (refine Zn ?_; try intro _)) <;> ((try simp only [kM, kN, kO]); refine Zb ?_; refine Zl ?_))) | (refine Zp (i := 1) ?_; ((try refine Zk ?_); (first | (refine Zf ?_; refine qQ ?_) | (refine Zn ?_; try intro _)) <;> ((try simp only [kM, kN, kO]); refine Zb ?_; refine Zl ?_))))
  all_goals (first | refine ZS 4 ?_ | (refine Ye (i := 3) (j := 5) ?_ ?_ <;> ((try refine Zk ?_); (first | (refine Zf ?_; refine qQ ?_) | (refine Zn ?_; try intro _)) <;> ((try simp only [kM, kN, kO]); refine Zb ?_; refine Zl ?_))) | (refine Zp (i := 2) ?_; ((try refine Zk ?_); (first | (refine Zf ?_; refine qQ ?_) | (refine Zn ?_; try intro _)) <;> ((try simp only [kM, kN, kO]); refine Zb ?_; refine Zl ?_))))
  all_goals (first | (refine Zp (i := 5) ?_; ((try refine Zk ?_); (first | (refine Zf ?_; refine qQ ?_) | (refine Zn ?_; try intro _)) <;> ((try simp only [kM, kN, kO]); refine Zb ?_; refine Zl ?_))) | (refine Zp (i := 3) ?_; ((try refine Zk ?_); (first | (refine Zf ?_; refine qQ ?_) | (refine Zn ?_; try intro _)) <;> ((try simp only [kM, kN, kO]); refine Zb ?_; refine Zl ?_))))
  all_goals refine ZS 6 ?_
  all_goals (refine Zp (i := 7) ?_; ((try refine Zk ?_); (first | (refine Zf ?_; refine qQ ?_) | (refine Zn ?_; try intro _)) <;> ((try simp only [kM, kN, kO]); refine Zb ?_; refine Zl ?_)))
  all_goals refine ZI ?_
  all_goals (repeat' (first | (refine ZE ?_; refine Zo (Zd rfl) rfl rfl ?_) | (refine Zj ?_; first | (refine Zf ?_; refine qQ ?_) | refine Zn ?_) | refine Zb ?_ | (refine Zi ?_; refine Zv ?_) | (refine Zh ?_; refine Zu ?_) | intro _))
  all_goals
   refine ZD (Zs _ _ ([])) (Zz (hT := tk) (Hp.le_refl _)) ?_
   all_goals (refine ZS 0 ?_; refine ZS 2 ?_; refine ZT 5 ?_; refine rCv 6 ?_)
   all_goals (refine Ye (i := 1) (j := 3) ?_ ?_ <;> ((try refine Zk ?_); (first | (refine Zf ?_; refine qQ ?_) | (refine Zn ?_; try intro _)) <;> ((try simp only [kM, kN, kO]); refine Zb ?_; refine Zl ?_)))
   all_goals (first | refine rCv 4 ?_ | (refine Zp (i := 3) ?_; ((try refine Zk ?_); (first | (refine Zf ?_; refine qQ ?_) | (refine Zn ?_; try intro _)) <;> ((try simp only [kM, kN, kO]); refine Zb ?_; refine Zl ?_))))
   all_goals (first | refine rCv 4 ?_ | refine rRm 7 ?_)
   all_goals (first | refine rRm 7 ?_ | (refine Zp (i := 1) ?_; ((try refine Zk ?_); (first | (refine Zf ?_; refine qQ ?_) | (refine Zn ?_; try intro _)) <;> ((try simp only [kM, kN, kO]); refine Zb ?_; refine Zl ?_))))
   all_goals (refine rIa 8 ?_; refine ZS 9 ?_)
   all_goals (refine Zp (i := 10) ?_; ((try refine Zk ?_); (first | (refine Zf ?_; refine qQ ?_) | (refine Zn ?_; try intro _)) <;> ((try simp only [kM, kN, kO]); refine Zb ?_; refine Zl ?_)))
   all_goals refine ZS 11 ?_
   all_goals (refine Zp (i := 12) ?_; ((try refine Zk ?_); (first | (refine Zf ?_; refine qQ ?_) | (refine Zn ?_; try intro _)) <;> ((try simp only [kM, kN, kO]); refine Zb ?_; refine Zl ?_)))
   all_goals refine ZI ?_
   all_goals (repeat' (first | (refine ZE ?_; refine Zo (Zd rfl) rfl rfl ?_) | (refine Zj ?_; first | (refine Zf ?_; refine qQ ?_) | refine Zn ?_) | refine Zb ?_ | (refine Zi ?_; refine Zv ?_) | (refine Zh ?_; refine Zu ?_) | intro _))
   all_goals ((try rw [hW]); exact qE (L' := []) ⟨rfl, rfl, rfl⟩)
theorem orecL_spec (ρ : Hp) (o : OpD) (v : SV) (ro : Ros) (h : RosIn ρ v ro) (L : Nat) (hW : IntKind.u64.wrap (((XZ ro.p : Nat) : Int) + 1) = (L : Int)) : Spec Tryz.prog 45 [.agg ⟨opV o⟩, .agg ⟨Yh v ro⟩] ρ [] (fun z ρ' L' => z = .agg ⟨Xh o.rv (Ws o ro.p L)⟩ ∧ ρ' = ρ ∧ L' = []) := by
 by_cases h1 : ¬ (o.rc.kind = 3 ∨ o.rc.kind = 4 ∨ o.rc.kind = 5) ∨ (WQ ro.p o.at').stack.length = 0
 ·exact orecL_A ρ o v ro h L hW h1
 have h2 : (o.rc.kind = 3 ∨ o.rc.kind = 4 ∨ o.rc.kind = 5) ∧ ¬ (WQ ro.p o.at').stack.length = 0 := by omega
 by_cases h0 : 0 < v.n
 ·cases hn : o.near
  ·exact orecL_N ρ o v ro L hn
  ·by_cases hu : (WQ ro.p o.at').undo ≤ nextO o (WQ ro.p o.at')
   ·exact orecL_B ρ o v ro h L hW hn h0 h2.1 h2.2 hu
   ·exact orecL_C ρ o v ro h L hW hn h0 h2.1 h2.2 hu
 ·have hl := h.at'.at'.len
  have hpl : ro.p.txns = [] := List.eq_nil_of_length_eq_zero (by simp only [Ros.p, List.length_map]; omega)
  have e : WQ ro.p o.at' = zP := by unfold WQ; rw [hpl]; rfl
  exact absurd (by rw [e]; rfl) h2.2
end Go.Proofs.E
