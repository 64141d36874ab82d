/- Laws of analysis. Part 27 of 37. -/
import Derived.Test.YtkbiahafeoillaaGreatB26
namespace Go.Proofs.E
open Go
set_option linter.unusedVariables false
set_option linter.unusedSimpArgs false
set_option linter.unusedSectionVars false
set_option maxRecDepth 4000
set_option maxHeartbeats 1000000
attribute [local irreducible] Yl TL TC TE Spec YY R1 Hp.le EnvLe TS TR YS Zq
theorem take1_spec (ρ : Hp) (cb xb : Nat) (p : Xm) (vv : Value) (sp : List Value) (os : List OT) (hR : OwnR vv sp os p.txns) (hG : RosG p) (rv : RV) (r : Rc) (h : RcIn ρ rv r) :
  Spec Tryz.prog 51 [.pointer (some ⟨cb, 0, none⟩), .pointer (some ⟨xb, 0, none⟩)] ρ (YX cb p.next vv noRV zeroRc none :: (ownRC vv sp os ++ [recC xb rv r]))
   (DoR (if ZZ r then YC p r else 220) (Yq p r).next (Yq p r).txns [recC xb rv r] cb ρ) := by
 have hck := XC ρ rv r h
 unfold DoR
 refine Zg Tryz.func51 rfl rfl rfl fun u R => ?_
 simp only [Zx, List.cons_append, List.nil_append]
 cases hok : ZZ r
 ·rw [hok] at hck
  simp only [Bool.false_eq_true, if_false] at hck ⊢
  repeat' (first | (refine Ze (.func 52) ?_; refine qC rfl rfl (hck) ?_; rintro v ρ' L' hle ⟨rfl, rfl, rfl⟩ <;> (try simp only [kM, kN, kO])) | (refine Zz ?_; refine Zk (Zc rfl) rfl rfl ?_) | (refine Zh ?_; first | (refine Zf ?_; refine qQ ?_) | refine Zm ?_) | refine Zb ?_ | (refine Zi ?_; refine Zr ?_) | (refine Zj ?_; refine Zs ?_) | intro _)
  exact qE (L' := [] ++ [recC xb rv r]) ⟨Hp.le_refl _, rfl, .inl ⟨by decide, [], rfl⟩⟩
 ·rw [hok] at hck
  simp only [if_true] at hck ⊢
  have ht := takes_spec ρ cb p.next vv sp os p.txns hR noRV zeroRc none rv r h hok hG
  unfold DoR at ht
  have hp : (⟨p.next, p.txns⟩ : Xm) = p := rfl
  rw [hp] at ht
  repeat' (first | (refine Ze (.func 52) ?_; refine qC rfl rfl (hck) ?_; rintro v ρ' L' hle ⟨rfl, rfl, rfl⟩ <;> (try simp only [kM, kN, kO])) | (refine Ze (.func 53) ?_; refine qC rfl rfl (ht) ?_; rintro v ρ' L' hle ⟨hl1, rfl, ⟨he, G, rfl⟩ | ⟨he, vv', sp', os', rv', x', tp', hR', rfl⟩⟩ <;> (try simp only [kM, kN, kO])) | (refine Zz ?_; refine Zk (Zc rfl) rfl rfl ?_) | (refine Zh ?_; first | (refine Zf ?_; refine qQ ?_) | refine Zm ?_) | refine Zb ?_ | (refine Zi ?_; refine Zr ?_) | (refine Zj ?_; refine Zs ?_) | intro _)
  ·simp only [List.append_nil, List.append_assoc]
   repeat' (first | (refine Zz ?_; refine Zk (Zc rfl) rfl rfl ?_) | (refine Zh ?_; first | (refine Zf ?_; refine qQ ?_) | refine Zm ?_) | refine Zb ?_ | (refine Zi ?_; refine Zr ?_) | (refine Zj ?_; refine Zs ?_) | intro _)
   exact qE (L' := G ++ [recC xb rv r]) ⟨hl1, rfl, .inl ⟨he, G, rfl⟩⟩
  ·repeat' (first | (refine Zz ?_; refine Zk (Zc rfl) rfl rfl ?_) | (refine Zh ?_; first | (refine Zf ?_; refine qQ ?_) | refine Zm ?_) | refine Zb ?_ | (refine Zi ?_; refine Zr ?_) | (refine Zj ?_; refine Zs ?_) | intro _)
   exact qE (L' := YX cb (Yq p r).next vv' rv' x' tp' :: (ownRC vv' sp' os' ++ [recC xb rv r])) ⟨hl1, rfl, .inr ⟨he, vv', sp', os', rv', x', tp', hR', rfl⟩⟩
theorem take_spec (ρ : Hp) (v : SV) (ro : Ros) (h : RosIn ρ v ro) (rv : RV) (r : Rc) (hr : RcIn ρ rv r) : Spec Tryz.prog 18 [.agg ⟨XI v ro⟩, .agg ⟨YR rv r⟩] ρ []
  (fun z ρ' L' => ρ.le ρ' ∧ ((takeE ro.p r ≠ 0 ∧ z = .tuple ⟨[.agg ⟨[.int .i64 0, .slice none 0 0]⟩, .int .i64 (takeE ro.p r)]⟩ ∧ L' = []) ∨
   (takeE ro.p r = 0 ∧ ∃ vv sp os, OwnR vv sp os (takeP ro.p r).txns ∧ z = .tuple ⟨[.agg ⟨[.int .i64 (takeP ro.p r).next, vv]⟩, .int .i64 0]⟩ ∧ L' = ownRC vv sp os))) := by
 refine Zg Tryz.func18 rfl rfl rfl fun u R => ?_
 simp only [Zx, List.cons_append, List.nil_append]
 unfold takeP takeE
 rw [rosOk_p]
 cases hok : XD ro
 ·have hw := fun cs X => rwith_bad ρ v ro h hok 51 cs X
  simp only [Bool.false_eq_true, if_false]
  repeat' (first | (refine Ze (.func 50) ?_; refine qC rfl rfl ((hw _ [])) ?_; rintro v ρ' L' hle ⟨rfl, rfl, rfl⟩ <;> (try simp only [kM, kN, kO])) | (refine Zz ?_; refine Zk (Zc rfl) rfl rfl ?_) | (refine Zh ?_; first | (refine Zf ?_; refine qQ ?_) | refine Zm ?_) | refine Zb ?_ | (refine Zi ?_; refine Zr ?_) | (refine Zj ?_; refine Zs ?_) | intro _)
  exact qE (L' := []) ⟨Hp.le_refl _, .inl ⟨by decide, rfl, rfl⟩⟩
 ·have hG : RosG ro.p := rosG_iff.1 (by rw [rosOk_p]; exact hok)
  simp only [if_true]
  have hw := fun xb => rwith_spec ρ v ro h hok 51 [.pointer (some ⟨xb, 0, none⟩)] [recC xb rv r] [recC xb rv r] (if ZZ r then YC ro.p r else 220) (Yq ro.p r).next (Yq ro.p r).txns (fun ρ1 hle cb vv sp os hR => take1_spec ρ1 cb xb ro.p vv sp os hR hG rv r (hr.mono hle))
  generalize (if ZZ r = true then YC ro.p r else 220) = e at *
  repeat' (first | (refine Ze (.func 50) ?_; refine qC rfl rfl (hw _) ?_; rintro v ρ' L' hle ⟨hl1, ⟨he, rfl, rfl⟩ | ⟨he, vv, sp, os, hR, rfl, rfl⟩⟩ <;> (try simp only [kM, kN, kO])) | (refine Zz ?_; refine Zk (Zc rfl) rfl rfl ?_) | (refine Zh ?_; first | (refine Zf ?_; refine qQ ?_) | refine Zm ?_) | refine Zb ?_ | (refine Zi ?_; refine Zr ?_) | (refine Zj ?_; refine Zs ?_) | intro _)
  ·repeat' (first | (refine Zz ?_; refine Zk (Zc rfl) rfl rfl ?_) | (refine Zh ?_; first | (refine Zf ?_; refine qQ ?_) | refine Zm ?_) | refine Zb ?_ | (refine Zi ?_; refine Zr ?_) | (refine Zj ?_; refine Zs ?_) | intro _)
   exact qE (L' := []) ⟨hl1, .inl ⟨he, rfl, rfl⟩⟩
  ·subst he
   obtain ⟨va, vc, rfl, _⟩ := hR.own.slice
   repeat' (first | (refine Zz ?_; refine Zk (Zc rfl) rfl rfl ?_) | (refine Zh ?_; first | (refine Zf ?_; refine qQ ?_) | refine Zm ?_) | refine Zb ?_ | (refine Zi ?_; refine Zr ?_) | (refine Zj ?_; refine Zs ?_) | intro _)
   exact qE (L' := ownRC _ sp os) ⟨hl1, .inr ⟨by trivial, _, sp, os, hR, rfl, rfl⟩⟩
theorem RosIn.z {ρ : Hp} : RosIn ρ Yz ⟨0, []⟩ := ⟨AS.nil, by simp⟩
theorem own_frozen {ρ : Hp} {next : Int} {vv : Value} {sp : List Value} {os : List OT} {p : Xm} (hR : OwnR vv sp os p.txns) (hG : RosG p) (hn : next = p.next) (hf : ∀ q ∈ (ownRC vv sp os).flatten, ρ q.1 = some q.2) :
  ∃ (v : SV) (ro' : Ros), Value.agg ⟨[.int .i64 next, vv]⟩ = .agg ⟨XI v ro'⟩ ∧ RosIn ρ v ro' ∧ ro'.p = p := by
 have h8 := hG.len
 obtain ⟨v, ro', e, h1, h2, h3⟩ := hR.frozen (ρ := ρ) (by omega) hG.bounds (fun q hq => hf q (by simp [hq])) (fun q hq => hf q (by simp [hq])) p.next
 refine ⟨v, ro', ?_, h1, h2⟩
 rw [e, hn, ← h3]
theorem takeP_ok {p : Xm} {r : Rc} (he : takeE p r = 0) : RosG (takeP p r) := by
 unfold takeP
 rw [if_pos he]
 unfold takeE at he
 cases h1 : Wg p
 ·rw [h1] at he; simp at he
 ·cases h2 : ZZ r
  ·rw [h1, h2] at he; simp at he
  ·rw [h1, h2] at he
   exact takes_ok (rosG_iff.1 h1) h2 he
theorem takeF_spec (ρ : Hp) (v : SV) (ro : Ros) (h : RosIn ρ v ro) (rv : RV) (r : Rc) (hr : RcIn ρ rv r) : Spec Tryz.prog 18 [.agg ⟨XI v ro⟩, .agg ⟨YR rv r⟩] ρ []
  (fun z ρ' L' => (ρ.le ρ' ∧ ∃ (v' : SV) (ro' : Ros), z = .tuple ⟨[.agg ⟨XI v' ro'⟩, .int .i64 (takeE ro.p r)]⟩ ∧ RosIn ρ' v' ro' ∧ ro'.p = takeP ro.p r) ∧ L' = []) := by
 refine Spec.freeze (Post2 := fun z ρ' => ρ.le ρ' ∧ ∃ (v' : SV) (ro' : Ros), z = .tuple ⟨[.agg ⟨XI v' ro'⟩, .int .i64 (takeE ro.p r)]⟩ ∧ RosIn ρ' v' ro' ∧ ro'.p = takeP ro.p r) (take_spec ρ v ro h rv r hr) ?_
 rintro z ρ' L' _ ⟨hl1, ⟨he, rfl, rfl⟩ | ⟨he, vv, sp, os, hR, rfl, rfl⟩⟩ ρ2 hl2 hf
 ·refine ⟨Hp.le_trans hl1 hl2, Yz, ⟨0, []⟩, rfl, RosIn.z, ?_⟩
  unfold takeP; rw [if_neg he]; rfl
 ·obtain ⟨v', ro', e1, e2, e3⟩ := own_frozen (next := (takeP ro.p r).next) hR (takeP_ok he) rfl hf
  exact ⟨Hp.le_trans hl1 hl2, v', ro', by rw [e1, he], e2, e3⟩
def zX : Tx := ⟨0, 0, 0, 0, 0, [], [], ⟨none, 0, 0⟩, ⟨none, 0, 0⟩⟩
theorem zX_in (ρ : Hp) : Tx.In ρ zX := ⟨AIn.nil, SIn.nil, Nat.zero_le _, Nat.zero_le _, Nat.le_refl _, Nat.le_refl _⟩
def FindR (o : Option TxP) (x : Tx) (b : Bool) : Prop := (∃ t, o = some t ∧ b = true ∧ x.p = t) ∨ (o = none ∧ b = false ∧ x = zX)
theorem rfind_spec (ρ : Hp) (v : SV) (ro : Ros) (h : RosIn ρ v ro) (num : Int) : Spec Tryz.prog 19 [.agg ⟨XI v ro⟩, .int .i64 num] ρ []
  (fun z ρ' L' => ρ' = ρ ∧ ∃ x b, z = .tuple ⟨[.agg ⟨txV x⟩, .bool b]⟩ ∧ Tx.In ρ' x ∧ FindR (if XD ro then XB ro.p num else none) x b ∧ L' = []) := by
 have hck := XL ρ v ro h
 have hat := atT_spec ρ ro.next v ro.txns h.at' num
 have hl := h.at'.at'.len
 have hA := h.at'.at'
 refine Zg Tryz.func19 rfl rfl rfl fun u R => ?_
 simp only [Zx, List.cons_append, List.nil_append]
 repeat' (first | (refine Ze (.func 54) ?_; refine qC rfl rfl (hat) ?_; rintro v ρ' L' hle ⟨rfl, i, there, rfl, hAt, rfl⟩ <;> (try simp only [kM, kN, kO])) | (refine Zz ?_; refine Zk (Zc rfl) rfl rfl ?_) | (refine Zh ?_; first | (refine Zf ?_; refine qQ ?_) | refine Zm ?_) | refine Zb ?_ | (refine Zi ?_; refine Zr ?_) | (refine Zj ?_; refine Zs ?_) | intro _)
 cases hok : XD ro
 ·rw [hok] at hck
  simp only [Bool.false_eq_true, if_false] at hck ⊢
  cases there
  all_goals (repeat' (first | (refine Ze (.func 55) ?_; refine qC rfl rfl (hck) ?_; rintro v ρ' L' hle ⟨rfl, rfl, rfl⟩ <;> (try simp only [kM, kN, kO])) | (refine Zz ?_; refine Zk (Zc rfl) rfl rfl ?_) | (refine Zh ?_; first | (refine Zf ?_; refine qQ ?_) | refine Zm ?_) | refine Zb ?_ | (refine Zi ?_; refine Zr ?_) | (refine Zj ?_; refine Zs ?_) | intro _))
  all_goals exact qE (L' := []) ⟨rfl, zX, false, rfl, zX_in _, .inr ⟨rfl, rfl, rfl⟩, rfl⟩
 ·have hG : RosG ro.p := rosG_iff.1 (by rw [rosOk_p]; exact hok)
  rw [hok] at hck
  simp only [if_true] at hck ⊢
  have hfa := find_at (next := ro.next) (txns := ro.p.txns) (os := ro.txns.map (fun x => ⟨x, [], []⟩)) (num := num) (i := i) (there := there) (by rw [List.map_map]; have : (OT.x ∘ fun x => (⟨x, [], []⟩ : OT)) = id := rfl; rw [this, List.map_id]; exact hAt) (by rw [List.map_map]; rfl) hG
  cases there
  ·have hf : XB ro.p num = none := hfa.2 rfl
   rw [hf]
   repeat' (first | (refine Zz ?_; refine Zk (Zc rfl) rfl rfl ?_) | (refine Zh ?_; first | (refine Zf ?_; refine qQ ?_) | refine Zm ?_) | refine Zb ?_ | (refine Zi ?_; refine Zr ?_) | (refine Zj ?_; refine Zs ?_) | intro _)
   exact qE (L' := []) ⟨rfl, zX, false, rfl, zX_in _, .inr ⟨rfl, rfl, rfl⟩, rfl⟩
  ·obtain ⟨hi, hnum, hf⟩ := hfa.1 rfl
   rw [List.length_map] at hi
   have hf : XB ro.p num = some (ro.txns[i]).p := by
    have : XB ro.p num = _ := hf
    rw [this]; simp
   rw [hf]
   obtain ⟨b, off, C, T, fr, e1, hb, hfit, hc⟩ := hA.get hi
   have hin := h.tx _ (List.getElem_mem hi)
   generalize ro.txns[i] = x at *
   have hrv : XI v ro = [.int .i64 ro.next, .slice (some ⟨b, off, none⟩) v.n v.c] := by rw [← e1]
   rw [hrv] at hck ⊢
   repeat' (first | (refine Ze (.func 55) ?_; refine qC rfl rfl (hck) ?_; rintro v ρ' L' hle ⟨rfl, rfl, rfl⟩ <;> (try simp only [kM, kN, kO])) | (refine Zz ?_; refine Zk (Zc rfl) rfl rfl ?_) | (refine Zh ?_; first | (refine Zf ?_; refine qQ ?_) | refine Zm ?_) | refine Zb ?_ | (refine Zi ?_; refine Zr ?_) | (refine Zj ?_; refine Zs ?_) | intro _)
   exact qE (L' := []) ⟨rfl, x, true, rfl, hin, .inl ⟨_, rfl, rfl, rfl⟩, rfl⟩
theorem rnew_spec (ρ : Hp) : Spec Tryz.prog 10 [] ρ [] (fun z ρ' L' => z = .agg ⟨XI Yz ⟨1, []⟩⟩ ∧ ρ' = ρ ∧ L' = []) := by
 refine Zg Tryz.func10 rfl rfl rfl fun u R => ?_
 simp only [Zx, List.cons_append, List.nil_append]
 repeat' (first | (refine Zz ?_; refine Zk (Zc rfl) rfl rfl ?_) | (refine Zh ?_; first | (refine Zf ?_; refine qQ ?_) | refine Zm ?_) | refine Zb ?_ | (refine Zi ?_; refine Zr ?_) | (refine Zj ?_; refine Zs ?_) | intro _)
 exact qE (L' := []) ⟨rfl, rfl, rfl⟩
theorem rnew_in (ρ : Hp) : RosIn ρ Yz ⟨1, []⟩ := ⟨AS.nil, by simp⟩
abbrev anC (ab : Nat) (d : AnD) : List (Nat × Obj) := [(ab, .cells ⟨anV d⟩ 67 (0, 0))]
theorem spans_spec (ρ : Hp) (d : AnD) : Spec Tryz.prog 106 [.agg ⟨anV d⟩] ρ [] (fun z ρ' L' => z = .bool (spansB d.p) ∧ ρ' = ρ ∧ L' = []) := by
 obtain ⟨base, master, fin, next, rv, ro, dv, dirty⟩ := d
 unfold spansB
 dsimp only
 refine Zg Tryz.func106 rfl rfl rfl fun u R => ?_
 simp only [Zx, List.cons_append, List.nil_append]
 by_cases hm : master = 0
 all_goals (repeat' (first | (refine Zz ?_; refine Zk (Zc rfl) rfl rfl ?_) | (refine Zh ?_; first | (refine Zf ?_; refine qQ ?_) | refine Zm ?_) | refine Zb ?_ | (refine Zi ?_; refine Zr ?_) | (refine Zj ?_; refine Zs ?_) | (refine Xw ?_; refine ZR rfl rfl (fun hb => ?_) (fun hb => ?_) <;> (try simp only [decide_eq_true_eq, decide_eq_false_iff_not, Bool.not_eq_true, Bool.not_eq_false, beq_iff_eq, bne_iff_ne, ne_eq, decide_eq_decide, Bool.not_eq_eq_eq_not, Bool.not_true, Bool.not_false, beq_eq_false_iff_ne, bne_eq_false_iff_eq, Bool.and_eq_true, Bool.or_eq_true, Bool.and_eq_false_imp, Bool.or_eq_false_iff, bq2, bqt, bqf] at hb)) | (refine Ym ?_; refine Yb rfl (fun hb => ?_) (fun hb => ?_) <;> (try simp only [decide_eq_true_eq, decide_eq_false_iff_not, Bool.not_eq_true, Bool.not_eq_false, beq_iff_eq, bne_iff_ne, ne_eq, decide_eq_decide, Bool.not_eq_eq_eq_not, Bool.not_true, Bool.not_false, beq_eq_false_iff_ne, bne_eq_false_iff_eq, Bool.and_eq_true, Bool.or_eq_true, Bool.and_eq_false_imp, Bool.or_eq_false_iff, bq2, bqt, bqf] at hb)) | intro _))
 all_goals (refine qF (L' := []) ?_; exact ⟨YI (by (try simp [*]); first | done | omega | (intros; omega) | (constructor <;> intros <;> (try simp_all) <;> omega)), rfl, rfl⟩)
theorem late_spec (ρ : Hp) (ab : Nat) (d : AnD) (x : Tx) (h : Tx.In ρ x) : Spec Tryz.prog 108 [.agg ⟨txV x⟩, .pointer (some ⟨ab, 0, none⟩)] ρ [anC ab d] (fun z ρ' L' => z = .bool (lateB d.next x.p) ∧ ρ' = ρ ∧ L' = [anC ab d]) := by
 have hm := h.m.len
 have hmb := h.mb
 unfold lateB
 dsimp only
 rw [hm]
 refine Zg Tryz.func108 rfl rfl rfl fun u R => ?_
 simp only [Zx, List.cons_append, List.nil_append]
 repeat' (first | (refine Zz ?_; refine Zk (Zc rfl) rfl rfl ?_) | (refine Zh ?_; first | (refine Zf ?_; refine qQ ?_) | refine Zm ?_) | refine Zb ?_ | (refine Zi ?_; refine Zr ?_) | (refine Zj ?_; refine Zs ?_) | (refine Xw ?_; refine ZR rfl rfl (fun hb => ?_) (fun hb => ?_) <;> (try simp only [decide_eq_true_eq, decide_eq_false_iff_not, Bool.not_eq_true, Bool.not_eq_false, beq_iff_eq, bne_iff_ne, ne_eq, decide_eq_decide, Bool.not_eq_eq_eq_not, Bool.not_true, Bool.not_false, beq_eq_false_iff_ne, bne_eq_false_iff_eq, Bool.and_eq_true, Bool.or_eq_true, Bool.and_eq_false_imp, Bool.or_eq_false_iff, bq2, bqt, bqf] at hb)) | (refine Ym ?_; refine Yb rfl (fun hb => ?_) (fun hb => ?_) <;> (try simp only [decide_eq_true_eq, decide_eq_false_iff_not, Bool.not_eq_true, Bool.not_eq_false, beq_iff_eq, bne_iff_ne, ne_eq, decide_eq_decide, Bool.not_eq_eq_eq_not, Bool.not_true, Bool.not_false, beq_eq_false_iff_ne, bne_eq_false_iff_eq, Bool.and_eq_true, Bool.or_eq_true, Bool.and_eq_false_imp, Bool.or_eq_false_iff, bq2, bqt, bqf] at hb)) | intro _)
 all_goals (refine qF (L' := [anC ab d]) ?_; exact ⟨YI (by (try simp [*]); first | done | omega | (intros; omega) | (constructor <;> intros <;> (try simp_all) <;> omega)), rfl, rfl⟩)
theorem behind_spec (ρ : Hp) (ab : Nat) (d : AnD) (x : Yp) : Spec Tryz.prog 109 [.agg ⟨YM x⟩, .pointer (some ⟨ab, 0, none⟩)] ρ [anC ab d] (fun z ρ' L' => z = .bool (behindB d.next x) ∧ ρ' = ρ ∧ L' = [anC ab d]) := by
 unfold behindB
 refine Zg Tryz.func109 rfl rfl rfl fun u R => ?_
 simp only [Zx, List.cons_append, List.nil_append]
 repeat' (first | (refine Zz ?_; refine Zk (Zc rfl) rfl rfl ?_) | (refine Zh ?_; first | (refine Zf ?_; refine qQ ?_) | refine Zm ?_) | refine Zb ?_ | (refine Zi ?_; refine Zr ?_) | (refine Zj ?_; refine Zs ?_) | intro _)
 refine qF (L' := [anC ab d]) ?_
 exact ⟨YI (by simp), rfl, rfl⟩
theorem idx_any {α : Type} {p : α → Bool} {l : List α} : decide (0 ≤ YN p l) = l.any p := by
 unfold YN
 cases hf : l.findIdx? p with
 | none =>
  rw [List.findIdx?_eq_none_iff] at hf
  have : l.any p = false := List.any_eq_false.2 (fun x hx => by rw [hf x hx]; simp)
  rw [this]; rfl
 | some i =>
  obtain ⟨h1, h2, _⟩ := List.findIdx?_eq_some_iff_getElem.1 hf
  have : l.any p = true := List.any_eq_true.2 ⟨_, List.getElem_mem h1, h2⟩
  rw [this]; simp
theorem idxTxF_spec (ρ : Hp) (a : Option Addr) (n c : Nat) (l : List Tx) (h : AIn ρ 7 txV a n l) (hn : n ≤ 1000000) (F : Nat) [hF : Yk Tryz.prog F] (cs : List Value) (X : SH) (pp : Tx → Bool)
  (hp : ∀ x ∈ l, Spec Tryz.prog F (.agg ⟨txV x⟩ :: cs) ρ X (fun z ρ' L' => z = .bool (pp x) ∧ ρ' = ρ ∧ L' = X)) :
  Spec Tryz.prog 155 [.slice a n c, .func (.func F) ⟨[]⟩ ⟨cs⟩] ρ X (fun z ρ' L' => z = .int .i64 (YN pp l) ∧ ρ' = ρ ∧ L' = X) := by
 have hl := h.len
 refine Zg Tryz.func155 rfl rfl rfl fun u R => ?_
 simp only [Zx, List.cons_append, List.nil_append]
 repeat' (first | (refine Zz ?_; refine Zk (Zc rfl) rfl rfl ?_) | (refine Zh ?_; first | (refine Zf ?_; refine qQ ?_) | refine Zm ?_) | refine Zb ?_ | (refine Zi ?_; refine Zr ?_) | (refine Zj ?_; refine Zs ?_) | intro _)
 refine ZC [(0, _), (1, _), (7, _)] (fun (ζ : (Nat)) => [(8, .int .i64 ζ), (4, .int .i64 0)]) (fun (ζ : (Nat)) => ρ) (fun (ζ : (Nat)) => X) (fun (ζ : (Nat)) => ζ ≤ n ∧ ∀ x ∈ l.take ζ, pp x = false) (fun (ζ : (Nat)) => n - ζ) (0) (⟨Nat.zero_le _, by simp⟩) Zl Zl rfl tk ?_
 rintro k hI
 try simp only [List.cons_append, List.nil_append, List.append_assoc, List.append_eq] at hI ⊢
 try dsimp only at hI ⊢
 obtain ⟨hk, hok⟩ := hI
 by_cases hlt : k < n
 ·obtain ⟨b, off, C, T, fr, rfl, hb, hfit, hc⟩ := h.get (show k < l.length by omega)
  have hf := fun (e : pp l[k] = true) => XT (p := pp) (show k < l.length by omega) e hok
  have ht := fun (e : pp l[k] = false) => take_more (p := fun x => pp x = false) (show k < l.length by omega) e hok
  have hp0 := hp _ (List.getElem_mem (show k < l.length by omega))
  cases hx : pp l[k]
  ·have hok2 := ht hx
   rw [hx] at hp0
   generalize l[k] = x at *
   repeat' (first | (refine Ze (.tmp 11) ?_; refine qC rfl rfl (hp0) ?_; rintro v ρ' L' hle ⟨rfl, rfl, rfl⟩ <;> (try simp only [kM, kN, kO])) | (refine Zz ?_; refine Zk (Zc rfl) rfl rfl ?_) | (refine Zh ?_; first | (refine Zf ?_; refine qQ ?_) | refine Zm ?_) | refine Zb ?_ | (refine Zi ?_; refine Zr ?_) | (refine Zj ?_; refine Zs ?_) | intro _)
   refine Zp (k + 1) (⟨hlt, hok2⟩) Zl Zl rfl tk inferInstance (by first | omega | (dsimp only; omega))
  ·have e := hf hx
   rw [hx] at hp0
   have e2 : YN pp l = (k : Int) := by unfold YN; rw [e]
   rw [e2]
   generalize l[k] = x at *
   repeat' (first | (refine Ze (.tmp 11) ?_; refine qC rfl rfl (hp0) ?_; rintro v ρ' L' hle ⟨rfl, rfl, rfl⟩ <;> (try simp only [kM, kN, kO])) | (refine Zz ?_; refine Zk (Zc rfl) rfl rfl ?_) | (refine Zh ?_; first | (refine Zf ?_; refine qQ ?_) | refine Zm ?_) | refine Zb ?_ | (refine Zi ?_; refine Zr ?_) | (refine Zj ?_; refine Zs ?_) | intro _)
   exact qE (L' := _) ⟨rfl, rfl, rfl⟩
 ·have hk2 : k = l.length := by omega
  rw [hk2, List.take_length] at hok
  have e2 : YN pp l = -1 := by unfold YN; rw [Wp hok]
  rw [e2]
  repeat' (first | (refine Zz ?_; refine Zk (Zc rfl) rfl rfl ?_) | (refine Zh ?_; first | (refine Zf ?_; refine qQ ?_) | refine Zm ?_) | refine Zb ?_ | (refine Zi ?_; refine Zr ?_) | (refine Zj ?_; refine Zs ?_) | intro _)
  exact qE (L' := _) ⟨rfl, rfl, rfl⟩
theorem hasTxF_spec (ρ : Hp) (a : Option Addr) (n c : Nat) (l : List Tx) (h : AIn ρ 7 txV a n l) (hn : n ≤ 1000000) (F : Nat) [hF : Yk Tryz.prog F] (cs : List Value) (X : SH) (pp : Tx → Bool)
  (hp : ∀ x ∈ l, Spec Tryz.prog F (.agg ⟨txV x⟩ :: cs) ρ X (fun z ρ' L' => z = .bool (pp x) ∧ ρ' = ρ ∧ L' = X)) :
  Spec Tryz.prog 110 [.slice a n c, .func (.func F) ⟨[]⟩ ⟨cs⟩] ρ X (fun z ρ' L' => z = .bool (l.any pp) ∧ ρ' = ρ ∧ L' = X) := by
 have hi := idxTxF_spec ρ a n c l h hn F cs X pp hp
 rw [← idx_any]
 generalize YN pp l = q at *
 refine Zg Tryz.func110 rfl rfl rfl fun u R => ?_
 simp only [Zx, List.cons_append, List.nil_append]
 repeat' (first | (refine Ze (.func 155) ?_; refine qC rfl rfl (hi) ?_; rintro v ρ' L' hle ⟨rfl, rfl, rfl⟩ <;> (try simp only [kM, kN, kO])) | (refine Zz ?_; refine Zk (Zc rfl) rfl rfl ?_) | (refine Zh ?_; first | (refine Zf ?_; refine qQ ?_) | refine Zm ?_) | refine Zb ?_ | (refine Zi ?_; refine Zr ?_) | (refine Zj ?_; refine Zs ?_) | intro _)
 refine qF (L' := L') ?_
 exact ⟨YI (by simp), rfl, rfl⟩
theorem idxCkF_spec (ρ : Hp) (a : Option Addr) (n c : Nat) (l : List Yp) (h : AIn ρ 2 YM a n l) (hn : n ≤ 1000000) (F : Nat) [hF : Yk Tryz.prog F] (cs : List Value) (X : SH) (pp : Yp → Bool)
  (hp : ∀ x ∈ l, Spec Tryz.prog F (.agg ⟨YM x⟩ :: cs) ρ X (fun z ρ' L' => z = .bool (pp x) ∧ ρ' = ρ ∧ L' = X)) :
  Spec Tryz.prog 156 [.slice a n c, .func (.func F) ⟨[]⟩ ⟨cs⟩] ρ X (fun z ρ' L' => z = .int .i64 (YN pp l) ∧ ρ' = ρ ∧ L' = X) := by
 have hl := h.len
 refine Zg Tryz.func156 rfl rfl rfl fun u R => ?_
 simp only [Zx, List.cons_append, List.nil_append]
 repeat' (first | (refine Zz ?_; refine Zk (Zc rfl) rfl rfl ?_) | (refine Zh ?_; first | (refine Zf ?_; refine qQ ?_) | refine Zm ?_) | refine Zb ?_ | (refine Zi ?_; refine Zr ?_) | (refine Zj ?_; refine Zs ?_) | intro _)
 refine ZC [(0, _), (1, _), (7, _)] (fun (ζ : (Nat)) => [(8, .int .i64 ζ), (4, .int .i64 0)]) (fun (ζ : (Nat)) => ρ) (fun (ζ : (Nat)) => X) (fun (ζ : (Nat)) => ζ ≤ n ∧ ∀ x ∈ l.take ζ, pp x = false) (fun (ζ : (Nat)) => n - ζ) (0) (⟨Nat.zero_le _, by simp⟩) Zl Zl rfl tk ?_
 rintro k hI
 try simp only [List.cons_append, List.nil_append, List.append_assoc, List.append_eq] at hI ⊢
 try dsimp only at hI ⊢
 obtain ⟨hk, hok⟩ := hI
 by_cases hlt : k < n
 ·obtain ⟨b, off, C, T, fr, rfl, hb, hfit, hc⟩ := h.get (show k < l.length by omega)
  have hf := fun (e : pp l[k] = true) => XT (p := pp) (show k < l.length by omega) e hok
  have ht := fun (e : pp l[k] = false) => take_more (p := fun x => pp x = false) (show k < l.length by omega) e hok
  have hp0 := hp _ (List.getElem_mem (show k < l.length by omega))
  cases hx : pp l[k]
  ·have hok2 := ht hx
   rw [hx] at hp0
   generalize l[k] = x at *
   repeat' (first | (refine Ze (.tmp 11) ?_; refine qC rfl rfl (hp0) ?_; rintro v ρ' L' hle ⟨rfl, rfl, rfl⟩ <;> (try simp only [kM, kN, kO])) | (refine Zz ?_; refine Zk (Zc rfl) rfl rfl ?_) | (refine Zh ?_; first | (refine Zf ?_; refine qQ ?_) | refine Zm ?_) | refine Zb ?_ | (refine Zi ?_; refine Zr ?_) | (refine Zj ?_; refine Zs ?_) | intro _)
   refine Zp (k + 1) (⟨hlt, hok2⟩) Zl Zl rfl tk inferInstance (by first | omega | (dsimp only; omega))
  ·have e := hf hx
   rw [hx] at hp0
   have e2 : YN pp l = (k : Int) := by unfold YN; rw [e]
   rw [e2]
   generalize l[k] = x at *
   repeat' (first | (refine Ze (.tmp 11) ?_; refine qC rfl rfl (hp0) ?_; rintro v ρ' L' hle ⟨rfl, rfl, rfl⟩ <;> (try simp only [kM, kN, kO])) | (refine Zz ?_; refine Zk (Zc rfl) rfl rfl ?_) | (refine Zh ?_; first | (refine Zf ?_; refine qQ ?_) | refine Zm ?_) | refine Zb ?_ | (refine Zi ?_; refine Zr ?_) | (refine Zj ?_; refine Zs ?_) | intro _)
   exact qE (L' := _) ⟨rfl, rfl, rfl⟩
 ·have hk2 : k = l.length := by omega
  rw [hk2, List.take_length] at hok
  have e2 : YN pp l = -1 := by unfold YN; rw [Wp hok]
  rw [e2]
  repeat' (first | (refine Zz ?_; refine Zk (Zc rfl) rfl rfl ?_) | (refine Zh ?_; first | (refine Zf ?_; refine qQ ?_) | refine Zm ?_) | refine Zb ?_ | (refine Zi ?_; refine Zr ?_) | (refine Zj ?_; refine Zs ?_) | intro _)
  exact qE (L' := _) ⟨rfl, rfl, rfl⟩
theorem hasCkF_spec (ρ : Hp) (a : Option Addr) (n c : Nat) (l : List Yp) (h : AIn ρ 2 YM a n l) (hn : n ≤ 1000000) (F : Nat) [hF : Yk Tryz.prog F] (cs : List Value) (X : SH) (pp : Yp → Bool)
  (hp : ∀ x ∈ l, Spec Tryz.prog F (.agg ⟨YM x⟩ :: cs) ρ X (fun z ρ' L' => z = .bool (pp x) ∧ ρ' = ρ ∧ L' = X)) :
  Spec Tryz.prog 111 [.slice a n c, .func (.func F) ⟨[]⟩ ⟨cs⟩] ρ X (fun z ρ' L' => z = .bool (l.any pp) ∧ ρ' = ρ ∧ L' = X) := by
 have hi := idxCkF_spec ρ a n c l h hn F cs X pp hp
 rw [← idx_any]
 generalize YN pp l = q at *
 refine Zg Tryz.func111 rfl rfl rfl fun u R => ?_
 simp only [Zx, List.cons_append, List.nil_append]
 repeat' (first | (refine Ze (.func 156) ?_; refine qC rfl rfl (hi) ?_; rintro v ρ' L' hle ⟨rfl, rfl, rfl⟩ <;> (try simp only [kM, kN, kO])) | (refine Zz ?_; refine Zk (Zc rfl) rfl rfl ?_) | (refine Zh ?_; first | (refine Zf ?_; refine qQ ?_) | refine Zm ?_) | refine Zb ?_ | (refine Zi ?_; refine Zr ?_) | (refine Zj ?_; refine Zs ?_) | intro _)
 refine qF (L' := L') ?_
 exact ⟨YI (by simp), rfl, rfl⟩
theorem any_tx (n : Nat) (l : List Tx) : (l.map Tx.p).any (lateB n) = l.any (fun x => lateB n x.p) := by
 rw [List.any_map]; rfl
theorem Xi (ρ : Hp) (d : AnD) (h : AnIn ρ d) : Spec Tryz.prog 58 [.agg ⟨anV d⟩] ρ [] (fun z ρ' L' => z = .bool (Yn d.p) ∧ ρ' = ρ ∧ L' = []) := by
 have hsp := spans_spec ρ d
 have hrc := XL ρ d.rv d.ro h.r
 have hcc := ckcheck_spec ρ d.dv d.dirty h.d
 have hl1 := fun ab => hasTxF_spec ρ d.rv.a d.rv.n d.rv.c d.ro.txns h.r.at'.at' h.r.at'.big 108 [.pointer (some ⟨ab, 0, none⟩)] [anC ab d] (fun x => lateB d.next x.p) (fun x hx => late_spec ρ ab d x (h.r.tx x hx))
 have hl2 := fun ab => hasCkF_spec ρ d.dv.a d.dv.n d.dv.c d.dirty h.d.at' h.d.big 109 [.pointer (some ⟨ab, 0, none⟩)] [anC ab d] (behindB d.next) (fun x hx => behind_spec ρ ab d x)
 have hdl := h.d.at'.len
 have hdb := h.d.big
 unfold Yn
 dsimp only
 rw [any_tx, rosOk_p, hdl]
 generalize spansB d.p = q0 at *
 generalize XD d.ro = q1 at *
 generalize YE d.dirty = q2 at *
 generalize (d.ro.txns.any fun x => lateB d.next x.p) = q3 at *
 generalize d.dirty.any (behindB d.next) = q4 at *
 obtain ⟨base, master, fin, next, rv, ro, dv, dirty⟩ := d
 dsimp only at *
 refine Zg Tryz.func58 rfl rfl rfl fun u R => ?_
 simp only [Zx, List.cons_append, List.nil_append]
 cases q0
 case' false =>
  repeat' (first | (refine Ze (.func 106) ?_; refine qC rfl rfl (hsp) ?_; rintro v ρ' L' hle ⟨rfl, rfl, rfl⟩ <;> (try simp only [kM, kN, kO])) | (refine Zz ?_; refine Zk (Zc rfl) rfl rfl ?_) | (refine Zh ?_; first | (refine Zf ?_; refine qQ ?_) | refine Zm ?_) | refine Zb ?_ | (refine Zi ?_; refine Zr ?_) | (refine Zj ?_; refine Zs ?_) | intro _)
  exact qE (L' := []) ⟨rfl, rfl, rfl⟩
 cases q1
 case' false =>
  repeat' (first | (refine Ze (.func 106) ?_; refine qC rfl rfl (hsp) ?_; rintro v ρ' L' hle ⟨rfl, rfl, rfl⟩ <;> (try simp only [kM, kN, kO])) | (refine Ze (.func 55) ?_; refine qC rfl rfl (hrc) ?_; rintro v ρ' L' hle ⟨rfl, rfl, rfl⟩ <;> (try simp only [kM, kN, kO])) | (refine Zz ?_; refine Zk (Zc rfl) rfl rfl ?_) | (refine Zh ?_; first | (refine Zf ?_; refine qQ ?_) | refine Zm ?_) | refine Zb ?_ | (refine Zi ?_; refine Zr ?_) | (refine Zj ?_; refine Zs ?_) | intro _)
  exact qE (L' := []) ⟨rfl, rfl, rfl⟩
 cases q2
 case' false =>
  repeat' (first | (refine Ze (.func 106) ?_; refine qC rfl rfl (hsp) ?_; rintro v ρ' L' hle ⟨rfl, rfl, rfl⟩ <;> (try simp only [kM, kN, kO])) | (refine Ze (.func 55) ?_; refine qC rfl rfl (hrc) ?_; rintro v ρ' L' hle ⟨rfl, rfl, rfl⟩ <;> (try simp only [kM, kN, kO])) | (refine Ze (.func 107) ?_; refine qC rfl rfl (hcc) ?_; rintro v ρ' L' hle ⟨rfl, rfl, rfl⟩ <;> (try simp only [kM, kN, kO])) | (refine Zz ?_; refine Zk (Zc rfl) rfl rfl ?_) | (refine Zh ?_; first | (refine Zf ?_; refine qQ ?_) | refine Zm ?_) | refine Zb ?_ | (refine Zi ?_; refine Zr ?_) | (refine Zj ?_; refine Zs ?_) | intro _)
  exact qE (L' := []) ⟨rfl, rfl, rfl⟩
 simp only [if_true] at hrc hcc
 simp only [Bool.true_and]
 repeat' (first | (refine Ze (.func 106) ?_; refine qC rfl rfl (hsp) ?_; rintro v ρ' L' hle ⟨rfl, rfl, rfl⟩ <;> (try simp only [kM, kN, kO])) | (refine Ze (.func 55) ?_; refine qC rfl rfl (hrc) ?_; rintro v ρ' L' hle ⟨rfl, rfl, rfl⟩ <;> (try simp only [kM, kN, kO])) | (refine Ze (.func 107) ?_; refine qC rfl rfl (hcc) ?_; rintro v ρ' L' hle ⟨rfl, rfl, rfl⟩ <;> (try simp only [kM, kN, kO])) | (refine Zz ?_; refine Zk (Zc rfl) rfl rfl ?_) | (refine Zh ?_; first | (refine Zf ?_; refine qQ ?_) | refine Zm ?_) | refine Zb ?_ | (refine Zi ?_; refine Zr ?_) | (refine Zj ?_; refine Zs ?_) | intro _)
 cases q3
 case' true =>
  repeat' (first | (refine Ze (.func 110) ?_; refine qC rfl rfl (hl1 _) ?_; rintro v ρ' L' hle ⟨rfl, rfl, rfl⟩ <;> (try simp only [kM, kN, kO])) | (refine Zz ?_; refine Zk (Zc rfl) rfl rfl ?_) | (refine Zh ?_; first | (refine Zf ?_; refine qQ ?_) | refine Zm ?_) | refine Zb ?_ | (refine Zi ?_; refine Zr ?_) | (refine Zj ?_; refine Zs ?_) | intro _)
  exact qE (L' := []) ⟨rfl, rfl, rfl⟩
 cases q4
 case' true =>
  repeat' (first | (refine Ze (.func 110) ?_; refine qC rfl rfl (hl1 _) ?_; rintro v ρ' L' hle ⟨rfl, rfl, rfl⟩ <;> (try simp only [kM, kN, kO])) | (refine Ze (.func 111) ?_; refine qC rfl rfl (hl2 _) ?_; rintro v ρ' L' hle ⟨rfl, rfl, rfl⟩ <;> (try simp only [kM, kN, kO])) | (refine Zz ?_; refine Zk (Zc rfl) rfl rfl ?_) | (refine Zh ?_; first | (refine Zf ?_; refine qQ ?_) | refine Zm ?_) | refine Zb ?_ | (refine Zi ?_; refine Zr ?_) | (refine Zj ?_; refine Zs ?_) | intro _)
  exact qE (L' := []) ⟨rfl, rfl, rfl⟩
 by_cases c1 : master < next
 ·rw [decide_eq_true (.inl c1)]
  repeat' (first | (refine Ze (.func 110) ?_; refine qC rfl rfl (hl1 _) ?_; rintro v ρ' L' hle ⟨rfl, rfl, rfl⟩ <;> (try simp only [kM, kN, kO])) | (refine Ze (.func 111) ?_; refine qC rfl rfl (hl2 _) ?_; rintro v ρ' L' hle ⟨rfl, rfl, rfl⟩ <;> (try simp only [kM, kN, kO])) | (refine Zz ?_; refine Zk (Zc rfl) rfl rfl ?_) | (refine Zh ?_; first | (refine Zf ?_; refine qQ ?_) | refine Zm ?_) | refine Zb ?_ | (refine Zi ?_; refine Zr ?_) | (refine Zj ?_; refine Zs ?_) | intro _)
  exact qE (L' := []) ⟨rfl, rfl, rfl⟩
 ·by_cases c2 : dv.n = 0
  ·rw [decide_eq_true (.inr c2)]
   repeat' (first | (refine Ze (.func 110) ?_; refine qC rfl rfl (hl1 _) ?_; rintro v ρ' L' hle ⟨rfl, rfl, rfl⟩ <;> (try simp only [kM, kN, kO])) | (refine Ze (.func 111) ?_; refine qC rfl rfl (hl2 _) ?_; rintro v ρ' L' hle ⟨rfl, rfl, rfl⟩ <;> (try simp only [kM, kN, kO])) | (refine Zz ?_; refine Zk (Zc rfl) rfl rfl ?_) | (refine Zh ?_; first | (refine Zf ?_; refine qQ ?_) | refine Zm ?_) | refine Zb ?_ | (refine Zi ?_; refine Zr ?_) | (refine Zj ?_; refine Zs ?_) | intro _)
   exact qE (L' := []) ⟨rfl, rfl, rfl⟩
  ·rw [decide_eq_false (by rintro (g | g); exact c1 g; exact c2 g)]
   repeat' (first | (refine Ze (.func 110) ?_; refine qC rfl rfl (hl1 _) ?_; rintro v ρ' L' hle ⟨rfl, rfl, rfl⟩ <;> (try simp only [kM, kN, kO])) | (refine Ze (.func 111) ?_; refine qC rfl rfl (hl2 _) ?_; rintro v ρ' L' hle ⟨rfl, rfl, rfl⟩ <;> (try simp only [kM, kN, kO])) | (refine Zz ?_; refine Zk (Zc rfl) rfl rfl ?_) | (refine Zh ?_; first | (refine Zf ?_; refine qQ ?_) | refine Zm ?_) | refine Zb ?_ | (refine Zi ?_; refine Zr ?_) | (refine Zj ?_; refine Zs ?_) | intro _)
   exact qE (L' := []) ⟨rfl, rfl, rfl⟩
theorem Wo (ρ : Hp) (d : AnD) (h : AnIn ρ d) : Spec Tryz.prog 27 [.agg ⟨anV d⟩] ρ [] (fun z ρ' L' => z = .int .i64 (if Yn d.p then 0 else 330) ∧ ρ' = ρ ∧ L' = []) := by
 have hr := Xi ρ d h
 generalize Yn d.p = q at *
 refine Zg Tryz.func27 rfl rfl rfl fun u R => ?_
 simp only [Zx, List.cons_append, List.nil_append]
 cases q
 all_goals (repeat' (first | (refine Ze (.func 58) ?_; refine qC rfl rfl (hr) ?_; rintro v ρ' L' hle ⟨rfl, rfl, rfl⟩ <;> (try simp only [kM, kN, kO])) | (refine Zz ?_; refine Zk (Zc rfl) rfl rfl ?_) | (refine Zh ?_; first | (refine Zf ?_; refine qQ ?_) | refine Zm ?_) | refine Zb ?_ | (refine Zi ?_; refine Zr ?_) | (refine Zj ?_; refine Zs ?_) | intro _))
 all_goals exact qE (L' := []) ⟨rfl, rfl, rfl⟩
def newD (base master fin : Nat) : AnD := ⟨base, master, fin, base, Yz, ⟨1, []⟩, Yz, []⟩
theorem newD_in {ρ : Hp} {base master fin : Nat} : AnIn ρ (newD base master fin) := ⟨rnew_in ρ, AS.nil⟩
theorem begin_spec (ρ : Hp) (base master fin : Nat) : Spec Tryz.prog 22 [.int .u64 base, .int .u64 master, .int .u64 fin] ρ []
  (fun z ρ' L' => ρ' = ρ ∧ L' = [] ∧ z = .tuple ⟨[.agg ⟨anV (if Yn (newA base master fin) then newD base master fin else zeroD)⟩, .int .i64 (if Yn (newA base master fin) then 0 else 2)]⟩) := by
 have hr := Xi ρ (newD base master fin) newD_in
 have e : (newD base master fin).p = newA base master fin := rfl
 rw [e] at hr
 generalize Yn (newA base master fin) = q at *
 refine Zg Tryz.func22 rfl rfl rfl fun u R => ?_
 simp only [Zx, List.cons_append, List.nil_append]
 cases q
 all_goals (repeat' (first | (refine Ze (.func 10) ?_; refine qC rfl rfl (rnew_spec _) ?_; rintro v ρ' L' hle ⟨rfl, rfl, rfl⟩ <;> (try simp only [kM, kN, kO])) | (refine Ze (.func 58) ?_; refine qC rfl rfl (hr) ?_; rintro v ρ' L' hle ⟨rfl, rfl, rfl⟩ <;> (try simp only [kM, kN, kO])) | (refine Zz ?_; refine Zk (Zc rfl) rfl rfl ?_) | (refine Zh ?_; first | (refine Zf ?_; refine qQ ?_) | refine Zm ?_) | refine Zb ?_ | (refine Zi ?_; refine Zr ?_) | (refine Zj ?_; refine Zs ?_) | intro _))
 all_goals exact qE (L' := []) ⟨rfl, rfl, rfl⟩
end Go.Proofs.E
