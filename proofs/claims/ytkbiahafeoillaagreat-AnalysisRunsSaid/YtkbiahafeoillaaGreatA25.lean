/- Laws of analysis. Part 25 of 41. -/
import Derived.Test.YtkbiahafeoillaaGreatA24
namespace Go.Proofs.E
open Go
set_option linter.unusedVariables false
set_option linter.unusedSimpArgs false
set_option linter.unusedSectionVars false
set_option maxRecDepth 4000
set_option maxHeartbeats 1000000
attribute [local irreducible] Yl TL TC TE Spec Xb R1 Hp.le EnvLe TS TR YS Zk
theorem rwith_bad (ρ : Hp) (v : SV) (r : Ros) (h : RosIn ρ v r) (hok : WB r = false) (F : Nat) (cs : List Value) (X : SH) :
  Spec Tryz.prog 50 [.agg ⟨XI v r⟩, .func (.func F) ⟨[]⟩ ⟨cs⟩] ρ X (fun z ρ' L' => ρ' = ρ ∧ z = .tuple ⟨[.agg ⟨[.int .i64 0, .slice none 0 0]⟩, .int .i64 280]⟩ ∧ L' = X) := by
 have hck := Ws ρ v r h
 rw [hok] at hck
 simp only [Bool.false_eq_true, if_false] at hck
 refine Zd Tryz.func50 rfl rfl rfl fun u R => ?_
 simp only [Zo, List.cons_append, List.nil_append]
 repeat' (first | (refine Zc (.func 55) ?_; refine qC rfl rfl (hck) ?_; rintro v ρ' L' hle ⟨rfl, rfl, rfl⟩ <;> (try simp only [kM, kN, kO])) | refine zV ?_ | intro _)
 exact qE (L' := X) ⟨rfl, rfl, rfl⟩
def DoR (e : Int) (next' : Int) (txns' : List TxP) (X' : SH) (cb : Nat) (ρ1 : Hp) (z : Value) (ρ' : Hp) (L' : SH) : Prop :=
 ρ1.le ρ' ∧ z = .int .i64 e ∧ ((e ≠ 0 ∧ ∃ G : SH, L' = G ++ X') ∨ (e = 0 ∧ ∃ vv' sp' os' rv x tp, OwnR vv' sp' os' txns' ∧ L' = Xd cb next' vv' rv x tp :: (ownRC vv' sp' os' ++ X')))
theorem rwith_spec (ρ : Hp) (v : SV) (r : Ros) (h : RosIn ρ v r) (hok : WB r = true) (F : Nat) [hF : Ya Tryz.prog F] (cs : List Value) (X X' : SH) (e : Int) (next' : Int) (txns' : List TxP)
  (hdo : ∀ ρ1, ρ.le ρ1 → ∀ cb vv sp os, OwnR vv sp os r.p.txns → Spec Tryz.prog F (.pointer (some ⟨cb, 0, none⟩) :: cs) ρ1 (Xd cb r.next vv noRV zeroRc none :: (ownRC vv sp os ++ X)) (DoR e next' txns' X' cb ρ1)) :
  Spec Tryz.prog 50 [.agg ⟨XI v r⟩, .func (.func F) ⟨[]⟩ ⟨cs⟩] ρ X
   (fun z ρ' L' => ρ.le ρ' ∧ ((e ≠ 0 ∧ z = .tuple ⟨[.agg ⟨[.int .i64 0, .slice none 0 0]⟩, .int .i64 e]⟩ ∧ L' = X') ∨ (e = 0 ∧ ∃ vv' sp' os', OwnR vv' sp' os' txns' ∧ z = .tuple ⟨[.agg ⟨[.int .i64 next', vv']⟩, .int .i64 0]⟩ ∧ L' = ownRC vv' sp' os' ++ X'))) := by
 have hck := Ws ρ v r h
 rw [hok] at hck
 simp only [if_true] at hck
 have hl := h.at'.at'.len
 have hbig := h.at'.big
 have hcap := h.at'.cap
 have hG : RosG r.p := rosG_iff.1 (by rw [rosOk_p]; exact hok)
 have h8 := hG.len
 have hpl : r.p.txns.length = r.txns.length := by simp [Ros.p]
 have hcl := cloneX_spec ρ v.a v.n v.c r.txns h.at'.at' (by omega) hcap
 refine Zd Tryz.func50 rfl rfl rfl fun u R => ?_
 simp only [Zo, List.cons_append, List.nil_append]
 repeat' (first | (refine Zc (.func 55) ?_; refine qC rfl rfl (hck) ?_; rintro v ρ' L' hle ⟨rfl, rfl, rfl⟩ <;> (try simp only [kM, kN, kO])) | refine zV ?_ | intro _)
 refine Zu (Zk _ _ _) Zp ?_
 all_goals (refine ZN 0 ?_; refine ZQ 1 ?_; refine ZN 2 ?_; refine ZQ 3 ?_)
 all_goals (refine Zj (i := 4) ?_; ((try refine Zh ?_); (first | (refine Zc (.func 83) ?_; refine qC rfl rfl (hcl) ?_; rintro v ρ' L' hle ⟨rfl, sp, hown, rfl⟩ <;> (try simp only [kM, kN, kO]); obtain ⟨va, vc, rfl, hvc⟩ := hown.slice) | (refine ZF ?_; try intro _)) <;> ((try simp only [kM, kN, kO]); refine Zf ?_; refine Zi ?_)))
 all_goals refine rBu 5 ?_ (y := fun _ _ => y_buildN rfl)
 all_goals refine rBu 6 ?_ (y := fun _ _ => y_buildN rfl)
 all_goals (refine Zj (i := 7) ?_; ((try refine Zh ?_); (first | (refine ZF ?_; try intro _)) <;> ((try simp only [kM, kN, kO]); refine Zf ?_; refine Zi ?_)))
 all_goals (refine Zz ?_; refine rAs 8 ?_; refine Zv ?_)
 repeat' (first | refine zV ?_ | intro _)
 rename_i cb
 rw [hl]
 rw [hl] at hown
 refine Zq [(1, _), (4, _), (5, _), (7, _), (30, _)] (fun (ζ : (Nat) × (List OT)) => [(31, .int .i64 ζ.1)]) (fun (ζ : (Nat) × (List OT)) => ρ') (fun (ζ : (Nat) × (List OT)) => [Xd cb r.next (.slice va v.n vc) noRV zeroRc none, ZG (.slice va v.n vc) (txF ζ.2 ++ ((r.txns.drop ζ.1).map Yk).flatten) sp 45, stC ζ.2]) (fun (ζ : (Nat) × (List OT)) => ζ.1 ≤ v.n ∧ ζ.2.length = ζ.1 ∧ (∀ o ∈ ζ.2, o.Own) ∧ ζ.2.map (fun o => o.x.p) = (r.txns.take ζ.1).map Tx.p ∧ OwnS (.slice va v.n vc) v.n (txF ζ.2 ++ ((r.txns.drop ζ.1).map Yk).flatten) sp 7) (fun (ζ : (Nat) × (List OT)) => v.n - ζ.1) ((0, [])) (⟨Nat.zero_le _, rfl, by simp, rfl, hown⟩) Ze Ze rfl tk ?_
 rintro ⟨k, os⟩ hI
 try simp only [List.cons_append, List.nil_append, List.append_assoc, List.append_eq] at hI ⊢
 try dsimp only at hI ⊢
 obtain ⟨hk, hol, hoo, hop, how⟩ := hI
 by_cases hlt : k < v.n
 ·rcases how.out with ⟨e0, e1, _, _⟩ | ⟨b, cap, e0, e1, e2, e3⟩
  ·omega
  ·cases e0
   have hx := List.drop_eq_getElem_cons (show k < r.txns.length by omega)
   have hx2 : (r.txns.take (k + 1)).map Tx.p = (r.txns.take k).map Tx.p ++ [(r.txns[k]'(by omega)).p] := by rw [List.take_succ_eq_append_getElem (by omega), List.map_append]; rfl
   have hin := h.tx _ (List.getElem_mem (show k < r.txns.length by omega))
   have hxg : TxG (r.txns[k]'(by omega)).p := (hG.tx _ (List.mem_map.2 ⟨_, List.getElem_mem (show k < r.txns.length by omega), rfl⟩)).2.2
   generalize r.txns[k]'(by omega) = x at *
   have hsl := hxg.sl
   have hml := hxg.ml
   have hs1 := hin.s.len
   have hm1 := hin.m.len
   simp only [Tx.p] at hsl hml
   have hPl : (txF os).length = 0 + k * 7 := by rw [txF_len, hol]; omega
   have hCe : ZG (.slice (some ⟨b, 0, none⟩) v.n vc) (txF os ++ ((r.txns.drop k).map Yk).flatten) sp 45 = [(b, .cells ⟨txF os ++ (Yk x ++ (((r.txns.drop (k + 1)).map Yk).flatten ++ sp))⟩ 45 (0, 0))] := by
    rw [hx]
    show [(b, Obj.cells ⟨(txF os ++ ((x :: r.txns.drop (k + 1)).map Yk).flatten) ++ sp⟩ 45 (0, 0))] = _
    simp only [List.map_cons, List.flatten_cons, List.append_assoc]
   simp only [List.cons_append, List.nil_append] at hCe
   rw [hCe]
   have hg5 : (txF os ++ (Yk x ++ (((r.txns.drop (k + 1)).map Yk).flatten ++ sp)))[0 + k * 7 + 5]? = some (.slice x.sv.a x.sv.n x.sv.c) := q_get hPl rfl
   have hg6 : (txF os ++ (Yk x ++ (((r.txns.drop (k + 1)).map Yk).flatten ++ sp)))[0 + k * 7 + 6]? = some (.slice x.mv.a x.mv.n x.mv.c) := q_get hPl rfl
   have hc1 := cloneL_spec ρ' x.sv.a x.sv.n x.sv.c x.stack hin.s (by omega) hin.sc
   have hc2 := cloneU_spec ρ' x.mv.a x.mv.n x.mv.c x.marks hin.m (by omega) hin.mc
   repeat' (first | refine zV ?_ | intro _)
   refine Zu (Zk _ _ ([])) (Zw (hT := tk) (Hp.le_refl _)) ?_
   all_goals (refine Zx 0 ?_; refine Zx 2 ?_; refine rNc 3 ?_; refine ZN 4 ?_; refine Zx 7 ?_; refine rNc 8 ?_; refine ZN 9 ?_)
   all_goals (refine rStep3 (i := 1) (j := 5) (k := 10) ?_ ?_ ?_ <;> ((try refine Zh ?_); (first | (refine Zc (.func 84) ?_; refine qC rfl rfl (hc1) ?_; rintro v ρ' L' hle ⟨rfl, s1, o1, rfl⟩ <;> (try simp only [kM, kN, kO]); obtain ⟨a1, c1, rfl, q1⟩ := o1.slice) | (refine Zc (.func 85) ?_; refine qC rfl rfl (hc2) ?_; rintro v ρ' L' hle ⟨rfl, s2, o2, rfl⟩ <;> (try simp only [kM, kN, kO]); obtain ⟨a2, c2, rfl, q2⟩ := o2.slice) | (refine ZX (o := 0 + k * 7) (P := txF os) rfl rfl hPl rfl ?_) | (refine Xv ?_; refine qQ ?_) | (refine ZF ?_; try intro _)) <;> ((try simp only [kM, kN, kO]); refine Zf ?_; refine Zi ?_)))
   all_goals (first | (refine YD (i := 5) (j := 10) ?_ ?_ <;> ((try refine Zh ?_); (first | (refine Zc (.func 84) ?_; refine qC rfl rfl (hc1) ?_; rintro v ρ' L' hle ⟨rfl, s1, o1, rfl⟩ <;> (try simp only [kM, kN, kO]); obtain ⟨a1, c1, rfl, q1⟩ := o1.slice) | (refine Zc (.func 85) ?_; refine qC rfl rfl (hc2) ?_; rintro v ρ' L' hle ⟨rfl, s2, o2, rfl⟩ <;> (try simp only [kM, kN, kO]); obtain ⟨a2, c2, rfl, q2⟩ := o2.slice) | (refine ZX (o := 0 + k * 7) (P := txF os) rfl rfl hPl rfl ?_) | (refine Xv ?_; refine qQ ?_) | (refine ZF ?_; try intro _)) <;> ((try simp only [kM, kN, kO]); refine Zf ?_; refine Zi ?_))) | (refine rStep3 (i := 1) (j := 6) (k := 10) ?_ ?_ ?_ <;> ((try refine Zh ?_); (first | (refine Zc (.func 84) ?_; refine qC rfl rfl (hc1) ?_; rintro v ρ' L' hle ⟨rfl, s1, o1, rfl⟩ <;> (try simp only [kM, kN, kO]); obtain ⟨a1, c1, rfl, q1⟩ := o1.slice) | (refine Zc (.func 85) ?_; refine qC rfl rfl (hc2) ?_; rintro v ρ' L' hle ⟨rfl, s2, o2, rfl⟩ <;> (try simp only [kM, kN, kO]); obtain ⟨a2, c2, rfl, q2⟩ := o2.slice) | (refine ZX (o := 0 + k * 7) (P := txF os) rfl rfl hPl rfl ?_) | (refine Xv ?_; refine qQ ?_) | (refine ZF ?_; try intro _)) <;> ((try simp only [kM, kN, kO]); refine Zf ?_; refine Zi ?_))) | (refine YD (i := 1) (j := 5) ?_ ?_ <;> ((try refine Zh ?_); (first | (refine Zc (.func 84) ?_; refine qC rfl rfl (hc1) ?_; rintro v ρ' L' hle ⟨rfl, s1, o1, rfl⟩ <;> (try simp only [kM, kN, kO]); obtain ⟨a1, c1, rfl, q1⟩ := o1.slice) | (refine Zc (.func 85) ?_; refine qC rfl rfl (hc2) ?_; rintro v ρ' L' hle ⟨rfl, s2, o2, rfl⟩ <;> (try simp only [kM, kN, kO]); obtain ⟨a2, c2, rfl, q2⟩ := o2.slice) | (refine ZX (o := 0 + k * 7) (P := txF os) rfl rfl hPl rfl ?_) | (refine Xv ?_; refine qQ ?_) | (refine ZF ?_; try intro _)) <;> ((try simp only [kM, kN, kO]); refine Zf ?_; refine Zi ?_))))
   all_goals (first | (refine YD (i := 6) (j := 10) ?_ ?_ <;> ((try refine Zh ?_); (first | (refine Zc (.func 84) ?_; refine qC rfl rfl (hc1) ?_; rintro v ρ' L' hle ⟨rfl, s1, o1, rfl⟩ <;> (try simp only [kM, kN, kO]); obtain ⟨a1, c1, rfl, q1⟩ := o1.slice) | (refine Zc (.func 85) ?_; refine qC rfl rfl (hc2) ?_; rintro v ρ' L' hle ⟨rfl, s2, o2, rfl⟩ <;> (try simp only [kM, kN, kO]); obtain ⟨a2, c2, rfl, q2⟩ := o2.slice) | (refine ZX (o := 0 + k * 7) (P := txF os) rfl rfl hPl rfl ?_) | (refine Xv ?_; refine qQ ?_) | (refine ZF ?_; try intro _)) <;> ((try simp only [kM, kN, kO]); refine Zf ?_; refine Zi ?_))) | (refine Zj (i := 5) ?_; ((try refine Zh ?_); (first | (refine Zc (.func 84) ?_; refine qC rfl rfl (hc1) ?_; rintro v ρ' L' hle ⟨rfl, s1, o1, rfl⟩ <;> (try simp only [kM, kN, kO]); obtain ⟨a1, c1, rfl, q1⟩ := o1.slice) | (refine Zc (.func 85) ?_; refine qC rfl rfl (hc2) ?_; rintro v ρ' L' hle ⟨rfl, s2, o2, rfl⟩ <;> (try simp only [kM, kN, kO]); obtain ⟨a2, c2, rfl, q2⟩ := o2.slice) | (refine ZX (o := 0 + k * 7) (P := txF os) rfl rfl hPl rfl ?_) | (refine Xv ?_; refine qQ ?_) | (refine ZF ?_; try intro _)) <;> ((try simp only [kM, kN, kO]); refine Zf ?_; refine Zi ?_))) | (refine YD (i := 1) (j := 10) ?_ ?_ <;> ((try refine Zh ?_); (first | (refine Zc (.func 84) ?_; refine qC rfl rfl (hc1) ?_; rintro v ρ' L' hle ⟨rfl, s1, o1, rfl⟩ <;> (try simp only [kM, kN, kO]); obtain ⟨a1, c1, rfl, q1⟩ := o1.slice) | (refine Zc (.func 85) ?_; refine qC rfl rfl (hc2) ?_; rintro v ρ' L' hle ⟨rfl, s2, o2, rfl⟩ <;> (try simp only [kM, kN, kO]); obtain ⟨a2, c2, rfl, q2⟩ := o2.slice) | (refine ZX (o := 0 + k * 7) (P := txF os) rfl rfl hPl rfl ?_) | (refine Xv ?_; refine qQ ?_) | (refine ZF ?_; try intro _)) <;> ((try simp only [kM, kN, kO]); refine Zf ?_; refine Zi ?_))) | (refine YD (i := 1) (j := 6) ?_ ?_ <;> ((try refine Zh ?_); (first | (refine Zc (.func 84) ?_; refine qC rfl rfl (hc1) ?_; rintro v ρ' L' hle ⟨rfl, s1, o1, rfl⟩ <;> (try simp only [kM, kN, kO]); obtain ⟨a1, c1, rfl, q1⟩ := o1.slice) | (refine Zc (.func 85) ?_; refine qC rfl rfl (hc2) ?_; rintro v ρ' L' hle ⟨rfl, s2, o2, rfl⟩ <;> (try simp only [kM, kN, kO]); obtain ⟨a2, c2, rfl, q2⟩ := o2.slice) | (refine ZX (o := 0 + k * 7) (P := txF os) rfl rfl hPl rfl ?_) | (refine Xv ?_; refine qQ ?_) | (refine ZF ?_; try intro _)) <;> ((try simp only [kM, kN, kO]); refine Zf ?_; refine Zi ?_))))
   all_goals (first | (refine Zj (i := 10) ?_; ((try refine Zh ?_); (first | (refine Zc (.func 84) ?_; refine qC rfl rfl (hc1) ?_; rintro v ρ' L' hle ⟨rfl, s1, o1, rfl⟩ <;> (try simp only [kM, kN, kO]); obtain ⟨a1, c1, rfl, q1⟩ := o1.slice) | (refine Zc (.func 85) ?_; refine qC rfl rfl (hc2) ?_; rintro v ρ' L' hle ⟨rfl, s2, o2, rfl⟩ <;> (try simp only [kM, kN, kO]); obtain ⟨a2, c2, rfl, q2⟩ := o2.slice) | (refine ZX (o := 0 + k * 7) (P := txF os) rfl rfl hPl rfl ?_) | (refine Xv ?_; refine qQ ?_) | (refine ZF ?_; try intro _)) <;> ((try simp only [kM, kN, kO]); refine Zf ?_; refine Zi ?_))) | (refine Zj (i := 6) ?_; ((try refine Zh ?_); (first | (refine Zc (.func 84) ?_; refine qC rfl rfl (hc1) ?_; rintro v ρ' L' hle ⟨rfl, s1, o1, rfl⟩ <;> (try simp only [kM, kN, kO]); obtain ⟨a1, c1, rfl, q1⟩ := o1.slice) | (refine ZX (o := 0 + k * 7) (P := txF os) rfl rfl hPl rfl ?_) | (refine Xv ?_; refine qQ ?_) | (refine ZF ?_; try intro _)) <;> ((try simp only [kM, kN, kO]); refine Zf ?_; refine Zi ?_))) | (refine YD (i := 1) (j := 11) ?_ ?_ <;> ((try refine Zh ?_); (first | (refine Zc (.func 84) ?_; refine qC rfl rfl (hc1) ?_; rintro v ρ' L' hle ⟨rfl, s1, o1, rfl⟩ <;> (try simp only [kM, kN, kO]); obtain ⟨a1, c1, rfl, q1⟩ := o1.slice) | (refine Zc (.func 85) ?_; refine qC rfl rfl (hc2) ?_; rintro v ρ' L' hle ⟨rfl, s2, o2, rfl⟩ <;> (try simp only [kM, kN, kO]); obtain ⟨a2, c2, rfl, q2⟩ := o2.slice) | (refine ZX (o := 0 + k * 7) (P := txF os) rfl rfl hPl rfl ?_) | (refine Xv ?_; refine qQ ?_) | (refine ZF ?_; try intro _)) <;> ((try simp only [kM, kN, kO]); refine Zf ?_; refine Zi ?_))))
   all_goals (first | refine rNc 12 ?_ | (refine Zj (i := 11) ?_; ((try refine Zh ?_); (first | (refine Zc (.func 85) ?_; refine qC rfl rfl (hc2) ?_; rintro v ρ' L' hle ⟨rfl, s2, o2, rfl⟩ <;> (try simp only [kM, kN, kO]); obtain ⟨a2, c2, rfl, q2⟩ := o2.slice) | (refine ZX (o := 0 + k * 7) (P := txF os) rfl rfl hPl rfl ?_) | (refine Xv ?_; refine qQ ?_) | (refine ZF ?_; try intro _)) <;> ((try simp only [kM, kN, kO]); refine Zf ?_; refine Zi ?_))))
   all_goals (first | refine rNc 12 ?_ | refine ZN 13 ?_)
   all_goals (first | refine ZN 13 ?_ | (refine YD (i := 1) (j := 14) ?_ ?_ <;> ((try refine Zh ?_); (first | (refine Zc (.func 84) ?_; refine qC rfl rfl (hc1) ?_; rintro v ρ' L' hle ⟨rfl, s1, o1, rfl⟩ <;> (try simp only [kM, kN, kO]); obtain ⟨a1, c1, rfl, q1⟩ := o1.slice) | (refine Zc (.func 85) ?_; refine qC rfl rfl (hc2) ?_; rintro v ρ' L' hle ⟨rfl, s2, o2, rfl⟩ <;> (try simp only [kM, kN, kO]); obtain ⟨a2, c2, rfl, q2⟩ := o2.slice) | (refine ZX (o := 0 + k * 7) (P := txF os) rfl rfl hPl rfl ?_) | (refine Xv ?_; refine qQ ?_) | (refine ZF ?_; try intro _)) <;> ((try simp only [kM, kN, kO]); refine Zf ?_; refine Zi ?_))))
   all_goals (first | (refine Zj (i := 14) ?_; ((try refine Zh ?_); (first | (refine ZX (o := 0 + k * 7) (P := txF os) rfl rfl hPl rfl ?_) | (refine Xv ?_; refine qQ ?_) | (refine ZF ?_; try intro _)) <;> ((try simp only [kM, kN, kO]); refine Zf ?_; refine Zi ?_))) | (refine Zj (i := 1) ?_; ((try refine Zh ?_); (first | (refine Zc (.func 84) ?_; refine qC rfl rfl (hc1) ?_; rintro v ρ' L' hle ⟨rfl, s1, o1, rfl⟩ <;> (try simp only [kM, kN, kO]); obtain ⟨a1, c1, rfl, q1⟩ := o1.slice) | (refine Zc (.func 85) ?_; refine qC rfl rfl (hc2) ?_; rintro v ρ' L' hle ⟨rfl, s2, o2, rfl⟩ <;> (try simp only [kM, kN, kO]); obtain ⟨a2, c2, rfl, q2⟩ := o2.slice) | (refine ZX (o := 0 + k * 7) (P := txF os) rfl rfl hPl rfl ?_) | (refine Xv ?_; refine qQ ?_) | (refine ZF ?_; try intro _)) <;> ((try simp only [kM, kN, kO]); refine Zf ?_; refine Zi ?_))))
   all_goals (refine rNc 15 ?_; refine ZN 16 ?_)
   all_goals (refine Zj (i := 17) ?_; ((try refine Zh ?_); (first | (refine ZX (o := 0 + k * 7) (P := txF os) rfl rfl hPl rfl ?_) | (refine Xv ?_; refine qQ ?_) | (refine ZF ?_; try intro _)) <;> ((try simp only [kM, kN, kO]); refine Zf ?_; refine Zi ?_)))
   all_goals refine Zv ?_
   all_goals (
    have hot : OwnX { x with sv := ⟨a1, x.stack.length, c1⟩, mv := ⟨a2, x.marks.length, c2⟩ } s1 s2 := ⟨o1, o2⟩
    generalize hoe : (⟨{ x with sv := ⟨a1, x.stack.length, c1⟩, mv := ⟨a2, x.marks.length, c2⟩ }, s1, s2⟩ : OT) = ot
    have hre : txF os ++ (Value.int .i64 x.num :: .int .i64 x.state :: .int .u64 x.first :: .int .u64 x.last :: .int .u64 x.undo :: .slice a1 x.stack.length c1 :: .slice a2 x.marks.length c2 :: (((r.txns.drop (k + 1)).map Yk).flatten ++ sp)) = (txF (os ++ [ot]) ++ ((r.txns.drop (k + 1)).map Yk).flatten) ++ sp := by
     rw [← hoe, txF_app, txF_one]; simp
    have hoo1 : ∀ o ∈ os ++ [ot], o.Own := fun o ho => by
     rcases List.mem_append.1 ho with ho | ho
     ·exact hoo o ho
     ·rw [List.mem_singleton] at ho
      subst ho; rw [← hoe]; exact hot
    have hop1 : (os ++ [ot]).map (fun o => o.x.p) = (r.txns.take (k + 1)).map Tx.p := by rw [List.map_append, hop, hx2, ← hoe]; rfl
    have hst : stC os ++ (ZG (.slice a1 x.stack.length c1) ((x.stack.map lfV).flatten) s1 108 ++ ZG (.slice a2 x.marks.length c2) (x.marks.map Yr) s2 28) = stC (os ++ [ot]) := by rw [stC_app, ← hoe, stC_one]
    have hlen : (txF (os ++ [ot]) ++ ((r.txns.drop (k + 1)).map Yk).flatten).length = v.n * 7 := by
     rw [List.length_append, txF_len, XC txV_len, List.length_append, List.length_drop, List.length_singleton]; omega
    have how1 : OwnS (.slice (some ⟨b, 0, none⟩) v.n vc) v.n (txF (os ++ [ot]) ++ ((r.txns.drop (k + 1)).map Yk).flatten) sp 7 := ⟨.inr ⟨b, vc, rfl, hlen, by omega, e3⟩⟩
    rw [hre]
    refine te_merge (ZG (.slice a1 x.stack.length c1) ((x.stack.map lfV).flatten) s1 108) (ZG (.slice a2 x.marks.length c2) (x.marks.map Yr) s2 28) ?_
    refine te_merge (stC os) (ZG (.slice a1 x.stack.length c1) ((x.stack.map lfV).flatten) s1 108 ++ ZG (.slice a2 x.marks.length c2) (x.marks.map Yr) s2 28) ?_
    rw [hst])
   all_goals (repeat' (first | refine zV ?_ | intro _))
   all_goals refine Zg (k + 1, os ++ [ot]) (⟨hlt, by simp; omega, hoo1, hop1, how1⟩) Ze Ze rfl tk inferInstance (by first | omega | (dsimp only; omega))
 ·have hk2 : k = r.txns.length := by omega
  subst hk2
  rw [List.take_length] at hop
  simp only [List.drop_length, List.map_nil, List.flatten_nil, List.append_nil] at how ⊢
  have hR : OwnR (.slice va v.n vc) sp os r.p.txns := ⟨by rw [hol]; rw [hl]; exact how, hoo, hop⟩
  have hd := hdo ρ' (Hp.le_refl ρ') cb _ sp os hR
  unfold DoR at hd
  by_cases he : e = 0
  ·subst he
   repeat' (first | (refine Zc (.tmp 58) ?_; refine qC rfl rfl (hd) ?_; rintro v ρ' L' hle ⟨hl1, rfl, ⟨h0, _⟩ | ⟨_, vv', sp', os', rv, x, tp, hR', rfl⟩⟩ <;> (try simp only [kM, kN, kO])) | refine zV ?_ | intro _)
   ·exact absurd rfl h0
   ·obtain ⟨va', vc', rfl, _⟩ := hR'.own.slice
    repeat' (first | refine zV ?_ | intro _)
    exact qE (L' := ownRC _ sp' os' ++ X') ⟨hl1, .inr ⟨by trivial, _, sp', os', hR', rfl, rfl⟩⟩
  ·repeat' (first | (refine Zc (.tmp 58) ?_; refine qC rfl rfl (hd) ?_; rintro v ρ' L' hle ⟨hl1, rfl, ⟨h0, G, rfl⟩ | ⟨h0, _⟩⟩ <;> (try simp only [kM, kN, kO])) | refine zV ?_ | intro _)
   ·simp only [List.append_assoc]
    repeat' (first | refine zV ?_ | intro _)
    exact qE (L' := X') ⟨hl1, .inl ⟨he, rfl, rfl⟩⟩
   ·exact absurd h0 he
end Go.Proofs.E
