/- The law RosterMarks. Part 12 of 20. -/
import Derived.Test.YtkbiahafeoillaaGreatU11
namespace Go.Proofs.E
open Go
set_option linter.unusedVariables false
set_option linter.unusedSimpArgs false
set_option linter.unusedSectionVars false
set_option maxRecDepth 4000
set_option maxHeartbeats 1000000
attribute [local irreducible] Yl TL TC TE Spec Wh R1 Hp.le EnvLe TS TR YS Zq
theorem take1_spec (ρ : Hp) (cb xb : Nat) (p : Yh) (vv : Value) (sp : List Value) (os : List OT) (hR : OwnR vv sp os p.txns) (hG : RosG p) (rv : RV) (r : Rc) (h : RcIn ρ rv r) :
  Spec Tryz.prog 51 [.pointer (some ⟨cb, 0, none⟩), .pointer (some ⟨xb, 0, none⟩)] ρ (YJ cb p.next vv noRV zeroRc none :: (Xs vv sp os ++ [recC xb rv r]))
   (DoR (if Yp r then XB p r else 220) (Yv p r).next (Yv p r).txns [recC xb rv r] cb ρ) := by
 have hck := rcheck_spec ρ rv r h
 unfold DoR
 refine Zg Tryz.func51 rfl rfl rfl fun u R => ?_
 simp only [Zx, List.cons_append, List.nil_append]
 cases hok : Yp r
 ·rw [hok] at hck
  simp only [Bool.false_eq_true, if_false] at hck ⊢
  repeat' (first | (refine Ze (.func 52) ?_; refine qC rfl rfl (hck) ?_; rintro v ρ' L' hle ⟨rfl, rfl, rfl⟩ <;> (try simp only [kM, kN, kO])) | (refine ZE ?_; refine Zn (Zd rfl) rfl rfl ?_) | (refine Zj ?_; first | (refine Zf ?_; refine qQ ?_) | refine Zm ?_) | refine Za ?_ | (refine Zi ?_; refine Zt ?_) | (refine Zh ?_; refine Zs ?_) | intro _)
  exact qE (L' := [] ++ [recC xb rv r]) ⟨Hp.le_refl _, rfl, .inl ⟨by decide, [], rfl⟩⟩
 ·rw [hok] at hck
  simp only [if_true] at hck ⊢
  have ht := takes_spec ρ cb p.next vv sp os p.txns hR noRV zeroRc none rv r h hok hG
  unfold DoR at ht
  have hp : (⟨p.next, p.txns⟩ : Yh) = p := rfl
  rw [hp] at ht
  repeat' (first | (refine Ze (.func 52) ?_; refine qC rfl rfl (hck) ?_; rintro v ρ' L' hle ⟨rfl, rfl, rfl⟩ <;> (try simp only [kM, kN, kO])) | (refine Ze (.func 53) ?_; refine qC rfl rfl (ht) ?_; rintro v ρ' L' hle ⟨hl1, rfl, ⟨he, G, rfl⟩ | ⟨he, vv', sp', os', rv', x', tp', hR', rfl⟩⟩ <;> (try simp only [kM, kN, kO])) | (refine ZE ?_; refine Zn (Zd rfl) rfl rfl ?_) | (refine Zj ?_; first | (refine Zf ?_; refine qQ ?_) | refine Zm ?_) | refine Za ?_ | (refine Zi ?_; refine Zt ?_) | (refine Zh ?_; refine Zs ?_) | intro _)
  ·simp only [List.append_nil, List.append_assoc]
   repeat' (first | (refine ZE ?_; refine Zn (Zd rfl) rfl rfl ?_) | (refine Zj ?_; first | (refine Zf ?_; refine qQ ?_) | refine Zm ?_) | refine Za ?_ | (refine Zi ?_; refine Zt ?_) | (refine Zh ?_; refine Zs ?_) | intro _)
   exact qE (L' := G ++ [recC xb rv r]) ⟨hl1, rfl, .inl ⟨he, G, rfl⟩⟩
  ·repeat' (first | (refine ZE ?_; refine Zn (Zd rfl) rfl rfl ?_) | (refine Zj ?_; first | (refine Zf ?_; refine qQ ?_) | refine Zm ?_) | refine Za ?_ | (refine Zi ?_; refine Zt ?_) | (refine Zh ?_; refine Zs ?_) | intro _)
   exact qE (L' := YJ cb (Yv p r).next vv' rv' x' tp' :: (Xs vv' sp' os' ++ [recC xb rv r])) ⟨hl1, rfl, .inr ⟨he, vv', sp', os', rv', x', tp', hR', rfl⟩⟩
theorem take_spec (ρ : Hp) (v : SV) (ro : Ros) (h : RosIn ρ v ro) (rv : RV) (r : Rc) (hr : RcIn ρ rv r) : Spec Tryz.prog 18 [.agg ⟨Yx v ro⟩, .agg ⟨recV rv r⟩] ρ []
  (fun z ρ' L' => ρ.le ρ' ∧ ((Xa ro.p r ≠ 0 ∧ z = .tuple ⟨[.agg ⟨[.int .i64 0, .slice none 0 0]⟩, .int .i64 (Xa ro.p r)]⟩ ∧ L' = []) ∨
   (Xa ro.p r = 0 ∧ ∃ vv sp os, OwnR vv sp os (YD ro.p r).txns ∧ z = .tuple ⟨[.agg ⟨[.int .i64 (YD ro.p r).next, vv]⟩, .int .i64 0]⟩ ∧ L' = Xs vv sp os))) := by
 refine Zg Tryz.func18 rfl rfl rfl fun u R => ?_
 simp only [Zx, List.cons_append, List.nil_append]
 unfold YD Xa
 rw [XA]
 cases hok : XY ro
 ·have hw := fun cs X => rwith_bad ρ v ro h hok 51 cs X
  simp only [Bool.false_eq_true, if_false]
  repeat' (first | (refine Ze (.func 50) ?_; refine qC rfl rfl ((hw _ [])) ?_; rintro v ρ' L' hle ⟨rfl, rfl, rfl⟩ <;> (try simp only [kM, kN, kO])) | (refine ZE ?_; refine Zn (Zd rfl) rfl rfl ?_) | (refine Zj ?_; first | (refine Zf ?_; refine qQ ?_) | refine Zm ?_) | refine Za ?_ | (refine Zi ?_; refine Zt ?_) | (refine Zh ?_; refine Zs ?_) | intro _)
  exact qE (L' := []) ⟨Hp.le_refl _, .inl ⟨by decide, rfl, rfl⟩⟩
 ·have hG : RosG ro.p := Yw.1 (by rw [XA]; exact hok)
  simp only [if_true]
  have hw := fun xb => rwith_spec ρ v ro h hok 51 [.pointer (some ⟨xb, 0, none⟩)] [recC xb rv r] [recC xb rv r] (if Yp r then XB ro.p r else 220) (Yv ro.p r).next (Yv ro.p r).txns (fun ρ1 hle cb vv sp os hR => take1_spec ρ1 cb xb ro.p vv sp os hR hG rv r (hr.mono hle))
  generalize (if Yp r = true then XB ro.p r else 220) = e at *
  repeat' (first | (refine Ze (.func 50) ?_; refine qC rfl rfl (hw _) ?_; rintro v ρ' L' hle ⟨hl1, ⟨he, rfl, rfl⟩ | ⟨he, vv, sp, os, hR, rfl, rfl⟩⟩ <;> (try simp only [kM, kN, kO])) | (refine ZE ?_; refine Zn (Zd rfl) rfl rfl ?_) | (refine Zj ?_; first | (refine Zf ?_; refine qQ ?_) | refine Zm ?_) | refine Za ?_ | (refine Zi ?_; refine Zt ?_) | (refine Zh ?_; refine Zs ?_) | intro _)
  ·repeat' (first | (refine ZE ?_; refine Zn (Zd rfl) rfl rfl ?_) | (refine Zj ?_; first | (refine Zf ?_; refine qQ ?_) | refine Zm ?_) | refine Za ?_ | (refine Zi ?_; refine Zt ?_) | (refine Zh ?_; refine Zs ?_) | intro _)
   exact qE (L' := []) ⟨hl1, .inl ⟨he, rfl, rfl⟩⟩
  ·subst he
   obtain ⟨va, vc, rfl, _⟩ := hR.own.slice
   repeat' (first | (refine ZE ?_; refine Zn (Zd rfl) rfl rfl ?_) | (refine Zj ?_; first | (refine Zf ?_; refine qQ ?_) | refine Zm ?_) | refine Za ?_ | (refine Zi ?_; refine Zt ?_) | (refine Zh ?_; refine Zs ?_) | intro _)
   exact qE (L' := Xs _ sp os) ⟨hl1, .inr ⟨by trivial, _, sp, os, hR, rfl, rfl⟩⟩
theorem RosIn.z {ρ : Hp} : RosIn ρ YI ⟨0, []⟩ := ⟨AS.nil, by simp⟩
theorem own_frozen {ρ : Hp} {next : Int} {vv : Value} {sp : List Value} {os : List OT} {p : Yh} (hR : OwnR vv sp os p.txns) (hG : RosG p) (hn : next = p.next) (hf : ∀ q ∈ (Xs vv sp os).flatten, ρ q.1 = some q.2) :
  ∃ (v : SV) (ro' : Ros), Value.agg ⟨[.int .i64 next, vv]⟩ = .agg ⟨Yx v ro'⟩ ∧ RosIn ρ v ro' ∧ ro'.p = p := by
 have h8 := hG.len
 obtain ⟨v, ro', e, h1, h2, h3⟩ := hR.frozen (ρ := ρ) (by omega) hG.bounds (fun q hq => hf q (by simp [hq])) (fun q hq => hf q (by simp [hq])) p.next
 refine ⟨v, ro', ?_, h1, h2⟩
 rw [e, hn, ← h3]
theorem takeP_ok {p : Yh} {r : Rc} (he : Xa p r = 0) : RosG (YD p r) := by
 unfold YD
 rw [if_pos he]
 unfold Xa at he
 cases h1 : Xq p
 ·rw [h1] at he; simp at he
 ·cases h2 : Yp r
  ·rw [h1, h2] at he; simp at he
  ·rw [h1, h2] at he
   exact takes_ok (Yw.1 h1) h2 he
theorem takeF_spec (ρ : Hp) (v : SV) (ro : Ros) (h : RosIn ρ v ro) (rv : RV) (r : Rc) (hr : RcIn ρ rv r) : Spec Tryz.prog 18 [.agg ⟨Yx v ro⟩, .agg ⟨recV rv r⟩] ρ []
  (fun z ρ' L' => (ρ.le ρ' ∧ ∃ (v' : SV) (ro' : Ros), z = .tuple ⟨[.agg ⟨Yx v' ro'⟩, .int .i64 (Xa ro.p r)]⟩ ∧ RosIn ρ' v' ro' ∧ ro'.p = YD ro.p r) ∧ L' = []) := by
 refine Spec.freeze (Post2 := fun z ρ' => ρ.le ρ' ∧ ∃ (v' : SV) (ro' : Ros), z = .tuple ⟨[.agg ⟨Yx v' ro'⟩, .int .i64 (Xa ro.p r)]⟩ ∧ RosIn ρ' v' ro' ∧ ro'.p = YD ro.p r) (take_spec ρ v ro h rv r hr) ?_
 rintro z ρ' L' _ ⟨hl1, ⟨he, rfl, rfl⟩ | ⟨he, vv, sp, os, hR, rfl, rfl⟩⟩ ρ2 hl2 hf
 ·refine ⟨Hp.le_trans hl1 hl2, YI, ⟨0, []⟩, rfl, RosIn.z, ?_⟩
  unfold YD; rw [if_neg he]; rfl
 ·obtain ⟨v', ro', e1, e2, e3⟩ := own_frozen (next := (YD ro.p r).next) hR (takeP_ok he) rfl hf
  exact ⟨Hp.le_trans hl1 hl2, v', ro', by rw [e1, he], e2, e3⟩
def askX (X2 : SH) (X2' : TxP → SH) (o : Option TxP) : SH := match o with | none => X2 | some t => if t.state = 1 then X2' t else X2
def AskR (f : TxP → Int) (g : TxP → TxP) (X2' : TxP → SH) (b : Nat) (P : List Value) (x : Tx) (S : List Value) (ρ1 : Hp) (z : Value) (ρ' : Hp) (L' : SH) : Prop :=
 ρ' = ρ1 ∧ z = .int .i64 (f x.p) ∧ ((f x.p ≠ 0 ∧ ∃ G : SH, L' = G ++ X2' x.p) ∨ (f x.p = 0 ∧ ∃ x' ss' ms', x'.p = g x.p ∧ OwnX x' ss' ms' ∧ L' = Xi b P x' S :: Wd x' ss' :: XW x' ms' :: X2' x.p))
abbrev doC (db F : Nat) (cs : List Value) : List (Nat × Obj) := [(db, .cells ⟨[.func (.func F) ⟨[]⟩ ⟨cs⟩]⟩ 104 (0, 0))]
theorem asks1_spec (ρ : Hp) (cb nb db : Nat) (p : Yh) (num : Int) (vv : Value) (sp : List Value) (os : List OT) (hR : OwnR vv sp os p.txns) (hG : RosG p) (F : Nat) [hF : Fun Tryz.prog F] (cs : List Value) (X2 : SH) (X2' : TxP → SH) (f : TxP → Int) (g : TxP → TxP) (hg : ∀ t, (g t).num = t.num)
  (hdo : ∀ b o P x S ss ms, P.length = o → OwnX x ss ms → TxG x.p → x.state = 1 → Spec Tryz.prog F (.pointer (some ⟨b, o, none⟩) :: cs) ρ (Xi b P x S :: Wd x ss :: XW x ms :: X2) (AskR f g X2' b P x S ρ)) :
  Spec Tryz.prog 81 [.pointer (some ⟨cb, 0, none⟩), .pointer (some ⟨nb, 0, none⟩), .pointer (some ⟨db, 0, none⟩)] ρ (YJ cb p.next vv noRV zeroRc none :: (Xs vv sp os ++ ([(nb, .cells ⟨[.int .i64 num]⟩ 3 (0, 0))] :: doC db F cs :: X2)))
   (DoR (askE f (Yq p num)) p.next (askT g p (Yq p num)).txns ([(nb, .cells ⟨[.int .i64 num]⟩ 3 (0, 0))] :: doC db F cs :: askX X2 X2' (Yq p num)) cb ρ) := by
 have h8 := hG.len
 have hol := hR.len
 unfold DoR
 have hat := atO_spec ρ p.next vv sp os (by omega) hR.own num
 have hfa := fun i there (hA : AtT (os.map OT.x) num i there) => find_at (next := p.next) (txns := p.txns) hA hR.says hG
 refine Zg Tryz.func81 rfl rfl rfl fun u R => ?_
 simp only [Zx, List.cons_append, List.nil_append]
 repeat' (first | (refine ZE ?_; refine Zn (Zd rfl) rfl rfl ?_) | (refine Zj ?_; first | (refine Zf ?_; refine qQ ?_) | refine Zm ?_) | refine Za ?_ | (refine Zi ?_; refine Zt ?_) | (refine Zh ?_; refine Zs ?_) | intro _)
 refine ZC (Zq _ _ ([YJ cb p.next vv noRV zeroRc none, [(nb, .cells ⟨[.int .i64 num]⟩ 3 (0, 0))]])) (Zy (hT := tk) (Hp.le_refl _)) ?_
 all_goals (refine ZU 0 ?_; refine rNc 1 ?_; refine ZY 2 ?_; refine Yf 3 ?_; refine Yf 4 ?_)
 all_goals (refine Zp (i := 5) ?_; ((try refine Zk ?_); (first | (refine Ze (.func 54) ?_; refine qC rfl rfl (hat) ?_; rintro v ρ' L' hle ⟨rfl, i, there, rfl, hAt, rfl⟩ <;> (try simp only [kM, kN, kO])) | (refine Zf ?_; refine qQ ?_) | (refine Zm ?_; try intro _)) <;> ((try simp only [kM, kN, kO]); refine Za ?_; refine Zl ?_)))
 all_goals (refine ZU 6 ?_; refine rEx 7 ?_; refine rAs 9 ?_)
 all_goals (refine Zp (i := 8) ?_; ((try refine Zk ?_); (first | (refine Ze (.func 54) ?_; refine qC rfl rfl (hat) ?_; rintro v ρ' L' hle ⟨rfl, i, there, rfl, hAt, rfl⟩ <;> (try simp only [kM, kN, kO])) | (refine Zf ?_; refine qQ ?_) | (refine Zm ?_; try intro _)) <;> ((try simp only [kM, kN, kO]); refine Za ?_; refine Zl ?_)))
 all_goals (refine ZS ?_; refine rAs 10 ?_; refine ZH ?_)
 all_goals obtain ⟨hf1, hf2⟩ := hfa i there hAt
 all_goals cases there
 all_goals (first
  | (rw [show Yq p num = none from hf2 rfl]; dsimp only [askE, askT, askX]; (repeat' (first | (refine ZE ?_; refine Zn (Zd rfl) rfl rfl ?_) | (refine Zj ?_; first | (refine Zf ?_; refine qQ ?_) | refine Zm ?_) | refine Za ?_ | (refine Zi ?_; refine Zt ?_) | (refine Zh ?_; refine Zs ?_) | intro _)); exact qE (L' := [] ++ ([(nb, .cells ⟨[.int .i64 num]⟩ 3 (0, 0))] :: doC db F cs :: X2)) ⟨Hp.le_refl _, rfl, .inl ⟨by decide, [], rfl⟩⟩)
  | skip)
 all_goals obtain ⟨hi, hnum, hfind⟩ := hf1 rfl
 all_goals obtain ⟨b, cap, rfl, e1, e2, e3⟩ := hR.own.blk (show 0 < os.length by omega)
 all_goals (
  have hot := hR.each _ (List.getElem_mem hi)
  have hi2 : i < p.txns.length := by omega
  have hti : p.txns[i] = (os[i].x).p := by simp [← hR.says]
  have hxg : TxG (os[i].x).p := by rw [← hti]; exact (hG.tx _ (List.getElem_mem hi2)).2.2
  have hti2 : (p.txns[i]).num = os[i].x.num := by rw [hti]
  obtain ⟨hE, hAl⟩ := among hi
  have hfind2 : Yq p num = some os[i].x.p := hfind
  generalize os[i] = ot at *
  generalize os.take i = A at *
  generalize os.drop (i + 1) = B at *
  rw [hfind2]
  dsimp only [askE, askT, askX]
  have hPl : (txF A).length = 0 + i * 7 := by rw [txF_len, hAl]; omega
  have hfE : txF os = txF A ++ (txV ot.x ++ txF B) := by rw [hE, XR, show txF (ot :: B) = txF ([ot] ++ B) from rfl, XR, txF_one]
  have hCe : ZZ (.slice (some ⟨b, 0, none⟩) os.length cap) (txF os) sp 45 = Xi b (txF A) ot.x (txF B ++ sp) := by
   show [(b, Obj.cells ⟨txF os ++ sp⟩ 45 (0, 0))] = _
   rw [hfE]; simp
  have hst : stC os = stC A ++ ((Wd ot.x ot.ss ++ XW ot.x ot.ms) ++ stC B) := by rw [hE, Wf, show stC (ot :: B) = stC ([ot] ++ B) from rfl, Wf, stC_one]
  have hli := live_spec ρ' cb p.next (.slice (some ⟨b, 0, none⟩) os.length cap) noRV zeroRc b (0 + i * 7) (txF A) ot.x (txF B ++ sp) hPl)
 all_goals (repeat' (first | (refine ZE ?_; refine Zn (Zd rfl) rfl rfl ?_) | (refine Zj ?_; first | (refine Zf ?_; refine qQ ?_) | refine Zm ?_) | refine Za ?_ | (refine Zi ?_; refine Zt ?_) | (refine Zh ?_; refine Zs ?_) | intro _))
 all_goals rw [hCe]
 all_goals by_cases hlv : ot.x.state = 1
 ·simp only [if_pos hlv]
  rw [decide_eq_true hlv] at hli
  repeat' (first | (refine Ze (.func 82) ?_; refine qC rfl rfl (hli) ?_; rintro v ρ' L' hle ⟨rfl, rfl, rfl⟩ <;> (try simp only [kM, kN, kO])) | (refine ZE ?_; refine Zn (Zd rfl) rfl rfl ?_) | (refine Zj ?_; first | (refine Zf ?_; refine qQ ?_) | refine Zm ?_) | refine Za ?_ | (refine Zi ?_; refine Zt ?_) | (refine Zh ?_; refine Zs ?_) | intro _)
  have hd := hdo b (0 + i * 7) (txF A) ot.x (txF B ++ sp) ot.ss ot.ms hPl hot hxg hlv
  unfold AskR at hd
  have hnx : (g ot.x.p).num = ot.x.num := hg _
  generalize f ot.x.p = fe at *
  generalize g ot.x.p = nx at *
  generalize X2' ot.x.p = Xf at *
  rw [hst]
  refine tc_split (stC A) _ ?_
  refine tc_split (Wd ot.x ot.ss ++ XW ot.x ot.ms) (stC B) ?_
  refine tc_split (Wd ot.x ot.ss) (XW ot.x ot.ms) ?_
  refine ZC (Zq _ _ ([YJ cb p.next (.slice (some ⟨b, 0, none⟩) os.length cap) noRV zeroRc (some ⟨b, 0 + i * 7, none⟩), doC db F cs])) (Zy (hT := tk) (Hp.le_refl _)) ?_
  all_goals (refine Yf 0 ?_; refine ZU 1 ?_; refine rNc 2 ?_; refine ZY 3 ?_; refine Yf 4 ?_)
  all_goals (refine Zp (i := 5) ?_; ((try refine Zk ?_); (first | (refine Ze (.tmp 31) ?_; refine qC rfl rfl (hd) ?_; rintro v ρ' L' hle ⟨rfl, rfl, ⟨he, G, rfl⟩ | ⟨he, x', ss', ms', e4, hX', rfl⟩⟩ <;> (try simp only [kM, kN, kO])) | (refine Zm ?_; try intro _)) <;> ((try simp only [kM, kN, kO]); refine Za ?_; refine Zl ?_)))
  all_goals (refine ZS ?_; refine rAs 6 ?_; refine ZH ?_)
  ·simp only [List.append_nil, List.append_assoc]
   repeat' (first | (refine ZE ?_; refine Zn (Zd rfl) rfl rfl ?_) | (refine Zj ?_; first | (refine Zf ?_; refine qQ ?_) | refine Zm ?_) | refine Za ?_ | (refine Zi ?_; refine Zt ?_) | (refine Zh ?_; refine Zs ?_) | intro _)
   exact qE (L' := (G ++ ([(nb, .cells ⟨[.int .i64 num]⟩ 3 (0, 0))] :: doC db F cs :: Xf))) ⟨Hp.le_refl _, rfl, .inl ⟨he, G, rfl⟩⟩
  ·subst he
   repeat' (first | (refine ZE ?_; refine Zn (Zd rfl) rfl rfl ?_) | (refine Zj ?_; first | (refine Zf ?_; refine qQ ?_) | refine Zm ?_) | refine Za ?_ | (refine Zi ?_; refine Zt ?_) | (refine Zh ?_; refine Zs ?_) | intro _)
   have hlo : (A ++ (⟨x', ss', ms'⟩ : OT) :: B).length = os.length := by rw [hE]; simp
   have hf1E : txF (A ++ (⟨x', ss', ms'⟩ : OT) :: B) = txF A ++ (txV x' ++ txF B) := by rw [XR, show txF ((⟨x', ss', ms'⟩ : OT) :: B) = txF ([(⟨x', ss', ms'⟩ : OT)] ++ B) from rfl, XR, txF_one]
   have hown1 := hR.own.turn (xs' := txF (A ++ (⟨x', ss', ms'⟩ : OT) :: B)) (by rw [txF_len, txF_len, hlo])
   have hCf : Xi b (txF A) x' (txF B ++ sp) = ZZ (.slice (some ⟨b, 0, none⟩) os.length cap) (txF (A ++ (⟨x', ss', ms'⟩ : OT) :: B)) sp 45 := by
    show _ = [(b, Obj.cells ⟨txF (A ++ (⟨x', ss', ms'⟩ : OT) :: B) ++ sp⟩ 45 (0, 0))]
    rw [hf1E]; simp
   have hst9 : stC A ++ ((Wd x' ss' ++ XW x' ms') ++ stC B) = stC (A ++ (⟨x', ss', ms'⟩ : OT) :: B) := by rw [Wf, show stC ((⟨x', ss', ms'⟩ : OT) :: B) = stC ([(⟨x', ss', ms'⟩ : OT)] ++ B) from rfl, Wf, stC_one]
   have hsay : (A ++ (⟨x', ss', ms'⟩ : OT) :: B).map (fun o => o.x.p) = (XP p nx).txns := by
    rw [putT_set hG hi2 (by rw [hti2]; exact hnx)]
    dsimp only
    rw [← hR.says, hE, List.map_append, List.map_cons, List.map_append, List.map_cons, List.set_append_right _ _ (by rw [List.length_map]; omega), List.length_map, hAl, Nat.sub_self, List.set_cons_zero, e4]
   have hCf2 : ∀ Y : SH, (Xi b (txF A) x' (txF B ++ sp) :: Y) = (ZZ (.slice (some ⟨b, 0, none⟩) os.length cap) (txF (A ++ (⟨x', ss', ms'⟩ : OT) :: B)) sp 45 :: Y) := fun Y => by rw [hCf]
   rw [hCf2]
   refine We (Wd x' ss') (XW x' ms') ?_
   refine We (Wd x' ss' ++ XW x' ms') (stC B) ?_
   refine We (stC A) ((Wd x' ss' ++ XW x' ms') ++ stC B) ?_
   rw [hst9]
   refine qE (L' := YJ cb p.next (.slice (some ⟨b, 0, none⟩) os.length cap) noRV zeroRc (some ⟨b, 0 + i * 7, none⟩) :: (Xs (.slice (some ⟨b, 0, none⟩) os.length cap) sp (A ++ (⟨x', ss', ms'⟩ : OT) :: B) ++ ([(nb, .cells ⟨[.int .i64 num]⟩ 3 (0, 0))] :: doC db F cs :: Xf))) ⟨Hp.le_refl _, rfl, .inr ⟨by trivial, _, sp, A ++ (⟨x', ss', ms'⟩ : OT) :: B, noRV, zeroRc, _, ⟨by rw [hlo]; exact hown1, fun o ho => ?_, hsay⟩, rfl⟩⟩
   rcases List.mem_append.1 ho with ho | ho
   ·exact hR.each o (by rw [hE]; exact List.mem_append_left _ ho)
   ·rcases List.mem_cons.1 ho with rfl | ho
    ·exact hX'
    ·exact hR.each o (by rw [hE]; exact List.mem_append_right _ (List.mem_cons_of_mem _ ho))
 ·simp only [if_neg hlv]
  rw [decide_eq_false hlv] at hli
  repeat' (first | (refine Ze (.func 82) ?_; refine qC rfl rfl (hli) ?_; rintro v ρ' L' hle ⟨rfl, rfl, rfl⟩ <;> (try simp only [kM, kN, kO])) | (refine ZE ?_; refine Zn (Zd rfl) rfl rfl ?_) | (refine Zj ?_; first | (refine Zf ?_; refine qQ ?_) | refine Zm ?_) | refine Za ?_ | (refine Zi ?_; refine Zt ?_) | (refine Zh ?_; refine Zs ?_) | intro _)
  exact qE (L' := [] ++ ([(nb, .cells ⟨[.int .i64 num]⟩ 3 (0, 0))] :: doC db F cs :: X2)) ⟨Hp.le_refl _, rfl, .inl ⟨by decide, [], rfl⟩⟩
theorem askT_next (g : TxP → TxP) (p : Yh) (o : Option TxP) : (askT g p o).next = p.next := by cases o <;> rfl
def asksX (X2 : SH) (X2' : TxP → SH) (p : Yh) (num : Int) : SH := if Xq p then askX X2 X2' (Yq p num) else X2
theorem asks_spec (ρ : Hp) (v : SV) (ro : Ros) (h : RosIn ρ v ro) (num : Int) (F : Nat) [hF : Fun Tryz.prog F] (cs : List Value) (X2 : SH) (X2' : TxP → SH) (f : TxP → Int) (g : TxP → TxP) (hg : ∀ t, (g t).num = t.num)
  (hdo : ∀ ρ1, ρ.le ρ1 → ∀ b o P x S ss ms, P.length = o → OwnX x ss ms → TxG x.p → x.state = 1 → Spec Tryz.prog F (.pointer (some ⟨b, o, none⟩) :: cs) ρ1 (Xi b P x S :: Wd x ss :: XW x ms :: X2) (AskR f g X2' b P x S ρ1)) :
  Spec Tryz.prog 42 [.agg ⟨Yx v ro⟩, .int .i64 num, .func (.func F) ⟨[]⟩ ⟨cs⟩] ρ X2
   (fun z ρ' L' => ρ.le ρ' ∧ ((Xo f ro.p num ≠ 0 ∧ z = .tuple ⟨[.agg ⟨[.int .i64 0, .slice none 0 0]⟩, .int .i64 (Xo f ro.p num)]⟩ ∧ L' = asksX X2 X2' ro.p num) ∨
    (Xo f ro.p num = 0 ∧ ∃ vv sp os, OwnR vv sp os (asksP f g ro.p num).txns ∧ z = .tuple ⟨[.agg ⟨[.int .i64 (asksP f g ro.p num).next, vv]⟩, .int .i64 0]⟩ ∧ L' = Xs vv sp os ++ asksX X2 X2' ro.p num))) := by
 refine Zg Tryz.func42 rfl rfl rfl fun u R => ?_
 simp only [Zx, List.cons_append, List.nil_append]
 unfold asksP Xo asksX
 rw [XA]
 cases hok : XY ro
 ·have hw := fun cs X => rwith_bad ρ v ro h hok 81 cs X
  simp only [Bool.false_eq_true, if_false]
  repeat' (first | (refine Ze (.func 50) ?_; refine qC rfl rfl ((hw _ [])) ?_; rintro v ρ' L' hle ⟨rfl, rfl, rfl⟩ <;> (try simp only [kM, kN, kO])) | (refine ZE ?_; refine Zn (Zd rfl) rfl rfl ?_) | (refine Zj ?_; first | (refine Zf ?_; refine qQ ?_) | refine Zm ?_) | refine Za ?_ | (refine Zi ?_; refine Zt ?_) | (refine Zh ?_; refine Zs ?_) | intro _)
  exact qE (L' := X2) ⟨Hp.le_refl _, .inl ⟨by decide, rfl, rfl⟩⟩
 ·have hG : RosG ro.p := Yw.1 (by rw [XA]; exact hok)
  simp only [if_true]
  have hw := fun nb db => rwith_spec ρ v ro h hok 81 [.pointer (some ⟨nb, 0, none⟩), .pointer (some ⟨db, 0, none⟩)] ([(nb, .cells ⟨[.int .i64 num]⟩ 3 (0, 0))] :: doC db F cs :: X2) ([(nb, .cells ⟨[.int .i64 num]⟩ 3 (0, 0))] :: doC db F cs :: askX X2 X2' (Yq ro.p num)) (askE f (Yq ro.p num)) ro.p.next (askT g ro.p (Yq ro.p num)).txns (fun ρ1 hle cb vv sp os hR => asks1_spec ρ1 cb nb db ro.p num vv sp os hR hG F cs X2 X2' f g hg (hdo ρ1 hle))
  have hnx := askT_next g ro.p (Yq ro.p num)
  generalize askE f (Yq ro.p num) = e at *
  generalize askX X2 X2' (Yq ro.p num) = Xf at *
  generalize askT g ro.p (Yq ro.p num) = pa at *
  rw [← hnx] at hw
  repeat' (first | (refine Ze (.func 50) ?_; refine qC rfl rfl (hw _ _) ?_; rintro v ρ' L' hle ⟨hl1, ⟨he, rfl, rfl⟩ | ⟨he, vv, sp, os, hR, rfl, rfl⟩⟩ <;> (try simp only [kM, kN, kO])) | (refine ZE ?_; refine Zn (Zd rfl) rfl rfl ?_) | (refine Zj ?_; first | (refine Zf ?_; refine qQ ?_) | refine Zm ?_) | refine Za ?_ | (refine Zi ?_; refine Zt ?_) | (refine Zh ?_; refine Zs ?_) | intro _)
  ·repeat' (first | (refine ZE ?_; refine Zn (Zd rfl) rfl rfl ?_) | (refine Zj ?_; first | (refine Zf ?_; refine qQ ?_) | refine Zm ?_) | refine Za ?_ | (refine Zi ?_; refine Zt ?_) | (refine Zh ?_; refine Zs ?_) | intro _)
   exact qE (L' := Xf) ⟨hl1, .inl ⟨he, rfl, rfl⟩⟩
  ·subst he
   obtain ⟨va, vc, rfl, _⟩ := hR.own.slice
   repeat' (first | (refine ZE ?_; refine Zn (Zd rfl) rfl rfl ?_) | (refine Zj ?_; first | (refine Zf ?_; refine qQ ?_) | refine Zm ?_) | refine Za ?_ | (refine Zi ?_; refine Zt ?_) | (refine Zh ?_; refine Zs ?_) | intro _)
   exact qE (L' := Xs _ sp os ++ Xf) ⟨hl1, .inr ⟨by trivial, _, sp, os, hR, rfl, rfl⟩⟩
abbrev Xr (nb : Nat) (n : Int) : List (Nat × Obj) := [(nb, .cells ⟨[.int .i64 n]⟩ 3 (0, 0))]
abbrev u64C (nb : Nat) (n : Nat) : List (Nat × Obj) := [(nb, .cells ⟨[.int .u64 n]⟩ 28 (0, 0))]
def markX (nb : Nat) (t : TxP) : SH := [Xr nb (if 8 ≤ t.marks.length then 0 else ((t.marks.length + 1 : Nat) : Int))]
theorem mark1_spec (ρ : Hp) (nb b o : Nat) (P : List Value) (x : Tx) (S ss ms : List Value) (hP : P.length = o) (hX : OwnX x ss ms) (hx : TxG x.p) :
  Spec Tryz.prog 43 [.pointer (some ⟨b, o, none⟩), .pointer (some ⟨nb, 0, none⟩)] ρ (Xi b P x S :: Wd x ss :: XW x ms :: [Xr nb 0]) (AskR markF Xk (markX nb) b P x S ρ) := by
 have hg4 : (P ++ txQ x S)[o + 4]? = some (.int .u64 x.undo) := q_get hP rfl
 have hg6 : (P ++ txQ x S)[o + 6]? = some (.slice x.mv.a x.mv.n x.mv.c) := q_get hP rfl
 have hml : x.marks.length ≤ 8 := hx.ml
 have hnn := hX.m.nn.1
 unfold AskR markF markX
 show Spec Tryz.prog _ _ _ _ (fun z ρ' L' => ρ' = ρ ∧ z = .int .i64 (if 8 ≤ x.marks.length then 6 else 0) ∧ (((if 8 ≤ x.marks.length then (6 : Int) else 0) ≠ 0 ∧ ∃ G : SH, L' = G ++ [Xr nb (if 8 ≤ x.marks.length then 0 else ((x.marks.length + 1 : Nat) : Int))]) ∨ ((if 8 ≤ x.marks.length then (6 : Int) else 0) = 0 ∧ ∃ x' ss' ms', x'.p = Xk x.p ∧ OwnX x' ss' ms' ∧ L' = Xi b P x' S :: Wd x' ss' :: XW x' ms' :: [Xr nb (if 8 ≤ x.marks.length then 0 else ((x.marks.length + 1 : Nat) : Int))])))
 refine Zg Tryz.func43 rfl rfl rfl fun u R => ?_
 simp only [Zx, List.cons_append, List.nil_append]
 by_cases h8 : 8 ≤ x.marks.length
 ·simp only [if_pos h8]
  repeat' (first | (refine ZE ?_; refine Zn (Zd rfl) rfl rfl ?_) | (refine Zj ?_; first | (refine Zf ?_; refine qQ ?_) | refine Zm ?_) | refine Za ?_ | (refine Zi ?_; refine Zt ?_) | (refine Zh ?_; refine Zs ?_) | intro _)
  exact qE (L' := [] ++ [Xr nb 0]) ⟨rfl, rfl, .inl ⟨by decide, [], rfl⟩⟩
 ·simp only [if_neg h8]
  repeat' (first | (refine ZE ?_; refine Zn (Zd rfl) rfl rfl ?_) | (refine Zj ?_; first | (refine Zf ?_; refine qQ ?_) | refine Zm ?_) | refine Za ?_ | (refine Zi ?_; refine Zt ?_) | (refine Zh ?_; refine Zs ?_) | intro _)
  refine tc_phase 11 (Zq _ _ ([Xi b P x S])) (by decide +kernel) (Zy (hT := tk) (Hp.le_refl _)) ?_
  simp only [List.take_succ_cons, List.take_zero]
  all_goals (refine ZU 0 ?_; refine ZU 1 ?_; refine rNc 2 ?_; refine ZY 3 ?_; refine Yf 4 ?_; refine ZU 5 ?_; refine rNc 6 ?_; refine ZY 7 ?_; refine Yf 8 ?_)
  all_goals (refine Zp (i := 9) ?_; ((try refine Zk ?_); (first | (refine Zz rfl rfl rfl rfl (by simp) rfl rfl (fun bs => ?_)) | (refine Zm ?_; try intro _)) <;> ((try simp only [kM, kN, kO]); refine Za ?_; refine Zl ?_)))
  all_goals (refine Zp (i := 10) ?_; ((try refine Zk ?_); (first | (refine Xp (ys := [Yj x.undo]) (m := 1) rfl rfl hX.m (hR := by infer_instance) SrcV.lit rfl rfl (by decide) rfl (by omega) (by omega) rfl (fun v' sp' hown' => ?_); obtain ⟨a1, c1, rfl, q1⟩ := hown'.slice) | (refine Zm ?_; try intro _)) <;> ((try simp only [kM, kN, kO]); refine Za ?_; refine Zl ?_)))
  all_goals refine ZH ?_
  all_goals refine te_phase (fuel := 3) (m := [true, true, true, true, true, true, true, true, true, true, true, false, false, false]) (Zq _ _ ([])) rfl rfl (Zy (hT := tk) (Hp.le_refl _)) ?_
  all_goals (refine rNc 11 ?_; refine ZY 12 ?_)
  all_goals (refine Zp (i := 13) ?_; ((try refine Zk ?_); (first | (refine ZR (o := o) (P := P) rfl rfl hP rfl ?_) | (refine Zm ?_; try intro _)) <;> ((try simp only [kM, kN, kO]); refine Za ?_; refine Zl ?_)))
  all_goals refine ZH ?_
  all_goals have hg6' : (P ++ txQ { x with marks := x.marks ++ [x.undo], mv := ⟨a1, x.marks.length + 1, c1⟩ } S)[o + 6]? = some (.slice a1 (x.marks.length + 1) c1) := q_get hP rfl
  all_goals have hm : x.marks.map Yj ++ [Yj x.undo] = (x.marks ++ [x.undo]).map Yj := by simp
  all_goals rw [hm] at hown' ⊢
  all_goals (repeat' (first | (refine ZE ?_; refine Zn (Zd rfl) rfl rfl ?_) | (refine Zj ?_; first | (refine Zf ?_; refine qQ ?_) | refine Zm ?_) | refine Za ?_ | (refine Zi ?_; refine Zt ?_) | (refine Zh ?_; refine Zs ?_) | intro _))
  all_goals exact qE (L' := Xi b P { x with marks := x.marks ++ [x.undo], mv := ⟨a1, x.marks.length + 1, c1⟩ } S :: Wd x ss :: XW { x with marks := x.marks ++ [x.undo], mv := ⟨a1, x.marks.length + 1, c1⟩ } sp' :: [Xr nb ((x.marks.length + 1 : Nat) : Int)]) ⟨rfl, rfl, .inr ⟨by trivial, { x with marks := x.marks ++ [x.undo], mv := ⟨a1, x.marks.length + 1, c1⟩ }, ss, sp', rfl, ⟨hX.s, by simpa using hown'⟩, rfl⟩⟩
def whereX (nb mb : Nat) (n : Int) (t : TxP) : SH := [Xr nb n, u64C mb (if whereF n t = 0 then whereN n t else 0)]
theorem mark_cell {x : Tx} {ss ms : List Value} (hX : OwnX x ss ms) {n : Int} (h1 : 1 ≤ n) (h2 : n ≤ (x.marks.length : Int)) : ∃ mb c, x.mv = ⟨some ⟨mb, 0, none⟩, x.marks.length, c⟩ ∧ XW x ms = [(mb, .cells ⟨x.marks.map Yj ++ ms⟩ 28 (0, 0))] ∧ (x.marks.map Yj ++ ms)[0 + (n - 1).toNat * 1]? = some (Yj (x.marks.getD (n - 1).toNat 0)) := by
 obtain ⟨mb, c, e, _, _, _⟩ := hX.m.blk (show 0 < x.marks.length by omega)
 obtain ⟨num, st, fi, la, un, sk, mk, sv, ⟨ma, mn, mc⟩⟩ := x
 dsimp only at *
 have f := Value.slice.inj e
 obtain ⟨rfl, rfl, rfl⟩ := f
 refine ⟨mb, _, rfl, rfl, ?_⟩
 rw [List.getElem?_append_left (by simp; omega)]
 have hlt : (n - 1).toNat < mk.length := by omega
 rw [Nat.zero_add, Nat.mul_one, List.getElem?_map, List.getElem?_eq_getElem hlt, Xe hlt]
 rfl
theorem where1_spec (ρ : Hp) (nb mb0 : Nat) (n : Int) (hnb : i64in n) (b o : Nat) (P : List Value) (x : Tx) (S ss ms : List Value) (hP : P.length = o) (hX : OwnX x ss ms) (hx : TxG x.p) :
  Spec Tryz.prog 44 [.pointer (some ⟨b, o, none⟩), .pointer (some ⟨nb, 0, none⟩), .pointer (some ⟨mb0, 0, none⟩)] ρ (Xi b P x S :: Wd x ss :: XW x ms :: [Xr nb n, u64C mb0 0]) (AskR (whereF n) id (whereX nb mb0 n) b P x S ρ) := by
 have hg6 : (P ++ txQ x S)[o + 6]? = some (.slice x.mv.a x.mv.n x.mv.c) := q_get hP rfl
 have hml : x.marks.length ≤ 8 := hx.ml
 have hnn := hX.m.nn.1
 unfold AskR whereX
 have hwF : whereF n x.p = if n < 1 ∨ (x.marks.length : Int) < n then 4 else 0 := rfl
 have hwN : whereN n x.p = x.marks.getD (n - 1).toNat 0 := rfl
 rw [hwF, hwN]
 refine Zg Tryz.func44 rfl rfl rfl fun u R => ?_
 simp only [Zx, List.cons_append, List.nil_append]
 by_cases h1 : n < 1
 ·simp only [if_pos (show n < 1 ∨ (x.marks.length : Int) < n from .inl h1), show ¬ ((4 : Int) = 0) by decide, if_false]
  repeat' (first | (refine ZE ?_; refine Zn (Zd rfl) rfl rfl ?_) | (refine Zj ?_; first | (refine Zf ?_; refine qQ ?_) | refine Zm ?_) | refine Za ?_ | (refine Zi ?_; refine Zt ?_) | (refine Zh ?_; refine Zs ?_) | intro _)
  refine ZC (Zq _ _ ([Xi b P x S, Xr nb n])) (Zy (hT := tk) (Hp.le_refl _)) ?_
  all_goals (refine Yf 0 ?_; refine ZS ?_; refine rCm 1 ?_; refine ZU 2 ?_; (first | refine Zc 3 ?_ | refine Zb 3 ?_ | refine wLd 3 ?_); (first | refine Zc 4 ?_ | refine Zb 4 ?_ | refine ZI 4 ?_); (first | refine Zc 5 ?_ | refine Zb 5 ?_ | refine wNc 5 ?_); (first | refine Zc 6 ?_ | refine Zb 6 ?_ | refine wFa 6 ?_); (first | refine Zc 7 ?_ | refine Zb 7 ?_ | refine wLd 7 ?_); (first | refine Zc 8 ?_ | refine Zb 8 ?_ | refine wBi 8 ?_); (first | refine Zc 9 ?_ | refine Zb 9 ?_ | refine wCm 9 ?_); refine rPk 10 ?_; refine ZH ?_)
  all_goals (repeat' (first | (refine ZE ?_; refine Zn (Zd rfl) rfl rfl ?_) | (refine Zj ?_; first | (refine Zf ?_; refine qQ ?_) | refine Zm ?_) | refine Za ?_ | (refine Zi ?_; refine Zt ?_) | (refine Zh ?_; refine Zs ?_) | intro _))
  all_goals exact qE (L' := [] ++ [Xr nb n, u64C mb0 0]) ⟨rfl, rfl, .inl ⟨by decide, [], rfl⟩⟩
 ·by_cases h2 : (x.marks.length : Int) < n
  ·simp only [if_pos (show n < 1 ∨ (x.marks.length : Int) < n from .inr h2), show ¬ ((4 : Int) = 0) by decide, if_false]
   repeat' (first | (refine ZE ?_; refine Zn (Zd rfl) rfl rfl ?_) | (refine Zj ?_; first | (refine Zf ?_; refine qQ ?_) | refine Zm ?_) | refine Za ?_ | (refine Zi ?_; refine Zt ?_) | (refine Zh ?_; refine Zs ?_) | intro _)
   refine ZC (Zq _ _ ([Xi b P x S, Xr nb n])) (Zy (hT := tk) (Hp.le_refl _)) ?_
   all_goals (refine Yf 0 ?_; refine ZS ?_; refine rCm 1 ?_; refine ZU 2 ?_; (first | refine Zc 3 ?_ | refine Zb 3 ?_ | refine wLd 3 ?_); (first | refine Zc 4 ?_ | refine Zb 4 ?_ | refine ZI 4 ?_); (first | refine Zc 5 ?_ | refine Zb 5 ?_ | refine wNc 5 ?_); (first | refine Zc 6 ?_ | refine Zb 6 ?_ | refine wFa 6 ?_); (first | refine Zc 7 ?_ | refine Zb 7 ?_ | refine wLd 7 ?_); (first | refine Zc 8 ?_ | refine Zb 8 ?_ | refine wBi 8 ?_); (first | refine Zc 9 ?_ | refine Zb 9 ?_ | refine wCm 9 ?_); refine rPk 10 ?_; refine ZH ?_)
   all_goals (repeat' (first | (refine ZE ?_; refine Zn (Zd rfl) rfl rfl ?_) | (refine Zj ?_; first | (refine Zf ?_; refine qQ ?_) | refine Zm ?_) | refine Za ?_ | (refine Zi ?_; refine Zt ?_) | (refine Zh ?_; refine Zs ?_) | intro _))
   all_goals exact qE (L' := [] ++ [Xr nb n, u64C mb0 0]) ⟨rfl, rfl, .inl ⟨by decide, [], rfl⟩⟩
  ·simp only [if_neg (show ¬ (n < 1 ∨ (x.marks.length : Int) < n) by omega), if_true]
   obtain ⟨mb, c, emv, em, hcell⟩ := mark_cell hX (show 1 ≤ n by omega) (show n ≤ (x.marks.length : Int) by omega)
   rw [emv] at hg6 hnn
   dsimp only at hg6 hnn
   have hQ : txQ x S = .int .i64 x.num :: .int .i64 x.state :: .int .u64 x.first :: .int .u64 x.last :: .int .u64 x.undo :: .slice x.sv.a x.sv.n x.sv.c :: .slice (some ⟨mb, 0, none⟩) x.marks.length c :: S := by rw [← show (⟨some ⟨mb, 0, none⟩, x.marks.length, c⟩ : SV).a = some ⟨mb, 0, none⟩ from rfl]; simp [txQ, emv]
   repeat' (first | (refine ZE ?_; refine Zn (Zd rfl) rfl rfl ?_) | (refine Zj ?_; first | (refine Zf ?_; refine qQ ?_) | refine Zm ?_) | refine Za ?_ | (refine Zi ?_; refine Zt ?_) | (refine Zh ?_; refine Zs ?_) | intro _)
   refine ZC (Zq _ _ ([Xi b P x S, Xr nb n])) (Zy (hT := tk) (Hp.le_refl _)) ?_
   all_goals (refine Yf 0 ?_; refine ZS ?_; refine rCm 1 ?_; refine ZU 2 ?_; (first | refine Zc 3 ?_ | refine Zb 3 ?_ | refine wLd 3 ?_); (first | refine Zc 4 ?_ | refine Zb 4 ?_ | refine ZI 4 ?_); (first | refine Zc 5 ?_ | refine Zb 5 ?_ | refine wNc 5 ?_); (first | refine Zc 6 ?_ | refine Zb 6 ?_ | refine wFa 6 ?_); (first | refine Zc 7 ?_ | refine Zb 7 ?_ | refine wLd 7 ?_); (first | refine Zc 8 ?_ | refine Zb 8 ?_ | refine wBi 8 ?_); (first | refine Zc 9 ?_ | refine Zb 9 ?_ | refine wCm 9 ?_); refine rPk 10 ?_; refine ZH ?_)
   all_goals (repeat' (first | (refine ZE ?_; refine Zn (Zd rfl) rfl rfl ?_) | (refine Zj ?_; first | (refine Zf ?_; refine qQ ?_) | refine Zm ?_) | refine Za ?_ | (refine Zi ?_; refine Zt ?_) | (refine Zh ?_; refine Zs ?_) | intro _))
   all_goals rw [em]
   all_goals refine ZC (Zq _ _ ([Xi b P x S, Xr nb n, [(mb, .cells ⟨x.marks.map Yj ++ ms⟩ 28 (0, 0))]])) (Zy (hT := tk) (Hp.le_refl _)) ?_
   all_goals (refine ZU 0 ?_; refine rNc 1 ?_; refine ZY 2 ?_; refine Yf 3 ?_; refine Yf 4 ?_; refine rSb 5 ?_; refine rIa 6 ?_; refine Yf 7 ?_)
   all_goals (refine Zp (i := 8) ?_; ((try refine Zk ?_); (first | (refine Zm ?_; try intro _)) <;> ((try simp only [kM, kN, kO]); refine Za ?_; refine Zl ?_)))
   all_goals refine ZH ?_
   all_goals (repeat' (first | (refine ZE ?_; refine Zn (Zd rfl) rfl rfl ?_) | (refine Zj ?_; first | (refine Zf ?_; refine qQ ?_) | refine Zm ?_) | refine Za ?_ | (refine Zi ?_; refine Zt ?_) | (refine Zh ?_; refine Zs ?_) | intro _))
   all_goals rw [← em]
   all_goals exact qE (L' := Xi b P x S :: Wd x ss :: XW x ms :: [Xr nb n, u64C mb0 (x.marks.getD (n - 1).toNat 0)]) ⟨rfl, rfl, .inr ⟨by trivial, x, ss, ms, rfl, hX, rfl⟩⟩
theorem cut1_spec (ρ : Hp) (nb : Nat) (n : Int) (hnb : i64in n) (b o : Nat) (P : List Value) (x : Tx) (S ss ms : List Value) (hP : P.length = o) (hX : OwnX x ss ms) (hx : TxG x.p) :
  Spec Tryz.prog 45 [.pointer (some ⟨b, o, none⟩), .pointer (some ⟨nb, 0, none⟩)] ρ (Xi b P x S :: Wd x ss :: XW x ms :: [Xr nb n]) (AskR (cutF n) (cutG n) (fun _ => [Xr nb n]) b P x S ρ) := by
 have hg4 : (P ++ txQ x S)[o + 4]? = some (.int .u64 x.undo) := q_get hP rfl
 have hg6 : (P ++ txQ x S)[o + 6]? = some (.slice x.mv.a x.mv.n x.mv.c) := q_get hP rfl
 have hml : x.marks.length ≤ 8 := hx.ml
 have hnn := hX.m.nn.1
 unfold AskR
 have hwF : cutF n x.p = if n < 1 ∨ (x.marks.length : Int) < n then 4 else if x.marks.getD (n - 1).toNat 0 ≠ x.undo then 2 else 0 := rfl
 rw [hwF]
 refine Zg Tryz.func45 rfl rfl rfl fun u R => ?_
 simp only [Zx, List.cons_append, List.nil_append]
 by_cases h1 : n < 1
 ·simp only [if_pos (show n < 1 ∨ (x.marks.length : Int) < n from .inl h1)]
  repeat' (first | (refine ZE ?_; refine Zn (Zd rfl) rfl rfl ?_) | (refine Zj ?_; first | (refine Zf ?_; refine qQ ?_) | refine Zm ?_) | refine Za ?_ | (refine Zi ?_; refine Zt ?_) | (refine Zh ?_; refine Zs ?_) | intro _)
  refine ZC (Zq _ _ ([Xi b P x S, Xr nb n])) (Zy (hT := tk) (Hp.le_refl _)) ?_
  all_goals (refine Yf 0 ?_; refine ZS ?_; refine rCm 1 ?_; refine ZU 2 ?_; (first | refine Zc 3 ?_ | refine Zb 3 ?_ | refine wLd 3 ?_); (first | refine Zc 4 ?_ | refine Zb 4 ?_ | refine ZI 4 ?_); (first | refine Zc 5 ?_ | refine Zb 5 ?_ | refine wNc 5 ?_); (first | refine Zc 6 ?_ | refine Zb 6 ?_ | refine wFa 6 ?_); (first | refine Zc 7 ?_ | refine Zb 7 ?_ | refine wLd 7 ?_); (first | refine Zc 8 ?_ | refine Zb 8 ?_ | refine wBi 8 ?_); (first | refine Zc 9 ?_ | refine Zb 9 ?_ | refine wCm 9 ?_); refine rPk 10 ?_; refine ZH ?_)
  all_goals (repeat' (first | (refine ZE ?_; refine Zn (Zd rfl) rfl rfl ?_) | (refine Zj ?_; first | (refine Zf ?_; refine qQ ?_) | refine Zm ?_) | refine Za ?_ | (refine Zi ?_; refine Zt ?_) | (refine Zh ?_; refine Zs ?_) | intro _))
  all_goals exact qE (L' := [] ++ [Xr nb n]) ⟨rfl, rfl, .inl ⟨by decide, [], rfl⟩⟩
 ·by_cases h2 : (x.marks.length : Int) < n
  ·simp only [if_pos (show n < 1 ∨ (x.marks.length : Int) < n from .inr h2)]
   repeat' (first | (refine ZE ?_; refine Zn (Zd rfl) rfl rfl ?_) | (refine Zj ?_; first | (refine Zf ?_; refine qQ ?_) | refine Zm ?_) | refine Za ?_ | (refine Zi ?_; refine Zt ?_) | (refine Zh ?_; refine Zs ?_) | intro _)
   refine ZC (Zq _ _ ([Xi b P x S, Xr nb n])) (Zy (hT := tk) (Hp.le_refl _)) ?_
   all_goals (refine Yf 0 ?_; refine ZS ?_; refine rCm 1 ?_; refine ZU 2 ?_; (first | refine Zc 3 ?_ | refine Zb 3 ?_ | refine wLd 3 ?_); (first | refine Zc 4 ?_ | refine Zb 4 ?_ | refine ZI 4 ?_); (first | refine Zc 5 ?_ | refine Zb 5 ?_ | refine wNc 5 ?_); (first | refine Zc 6 ?_ | refine Zb 6 ?_ | refine wFa 6 ?_); (first | refine Zc 7 ?_ | refine Zb 7 ?_ | refine wLd 7 ?_); (first | refine Zc 8 ?_ | refine Zb 8 ?_ | refine wBi 8 ?_); (first | refine Zc 9 ?_ | refine Zb 9 ?_ | refine wCm 9 ?_); refine rPk 10 ?_; refine ZH ?_)
   all_goals (repeat' (first | (refine ZE ?_; refine Zn (Zd rfl) rfl rfl ?_) | (refine Zj ?_; first | (refine Zf ?_; refine qQ ?_) | refine Zm ?_) | refine Za ?_ | (refine Zi ?_; refine Zt ?_) | (refine Zh ?_; refine Zs ?_) | intro _))
   all_goals exact qE (L' := [] ++ [Xr nb n]) ⟨rfl, rfl, .inl ⟨by decide, [], rfl⟩⟩
  ·simp only [if_neg (show ¬ (n < 1 ∨ (x.marks.length : Int) < n) by omega)]
   obtain ⟨mb, c, emv, em, hcell⟩ := mark_cell hX (show 1 ≤ n by omega) (show n ≤ (x.marks.length : Int) by omega)
   rw [emv] at hg6 hnn
   dsimp only at hg6 hnn
   have hmc : x.marks.length ≤ c := by have := hX.m.nn.2; rw [emv] at this; exact this
   by_cases h3 : x.marks.getD (n - 1).toNat 0 = x.undo
   ·simp only [if_neg (show ¬ (x.marks.getD (n - 1).toNat 0 ≠ x.undo) from fun e => e h3)]
    rw [h3] at hcell
    have hsl : (x.marks.take n.toNat).length = n.toNat := by rw [List.length_take]; omega
    have hown : OwnS (.slice (some ⟨mb, 0, none⟩) n.toNat c) (x.marks.take n.toNat).length ((x.marks.take n.toNat).map Yj) ((x.marks.drop n.toNat).map Yj ++ ms) 1 := by
     rcases hX.m.out with ⟨_, q, _, _⟩ | ⟨b2, c2, q0, q1, q2, q3⟩
     ·omega
     ·rw [emv] at q0
      cases q0
      simp only [List.length_map] at q1 q2
      exact ⟨.inr ⟨mb, c, by rw [hsl], by simp, by simp only [List.length_append, List.length_map, List.length_take, List.length_drop]; omega, by omega⟩⟩
    have hcl : ZZ (.slice (some ⟨mb, 0, none⟩) n.toNat c) ((x.marks.take n.toNat).map Yj) ((x.marks.drop n.toNat).map Yj ++ ms) 28 = [(mb, .cells ⟨x.marks.map Yj ++ ms⟩ 28 (0, 0))] := by
     show [(mb, Obj.cells ⟨(x.marks.take n.toNat).map Yj ++ ((x.marks.drop n.toNat).map Yj ++ ms)⟩ 28 (0, 0))] = _
     rw [← List.append_assoc, ← List.map_append, List.take_append_drop]
    repeat' (first | (refine ZE ?_; refine Zn (Zd rfl) rfl rfl ?_) | (refine Zj ?_; first | (refine Zf ?_; refine qQ ?_) | refine Zm ?_) | refine Za ?_ | (refine Zi ?_; refine Zt ?_) | (refine Zh ?_; refine Zs ?_) | intro _)
    refine ZC (Zq _ _ ([Xi b P x S, Xr nb n])) (Zy (hT := tk) (Hp.le_refl _)) ?_
    all_goals (refine Yf 0 ?_; refine ZS ?_; refine rCm 1 ?_; refine ZU 2 ?_; (first | refine Zc 3 ?_ | refine Zb 3 ?_ | refine wLd 3 ?_); (first | refine Zc 4 ?_ | refine Zb 4 ?_ | refine ZI 4 ?_); (first | refine Zc 5 ?_ | refine Zb 5 ?_ | refine wNc 5 ?_); (first | refine Zc 6 ?_ | refine Zb 6 ?_ | refine wFa 6 ?_); (first | refine Zc 7 ?_ | refine Zb 7 ?_ | refine wLd 7 ?_); (first | refine Zc 8 ?_ | refine Zb 8 ?_ | refine wBi 8 ?_); (first | refine Zc 9 ?_ | refine Zb 9 ?_ | refine wCm 9 ?_); refine rPk 10 ?_; refine ZH ?_)
    all_goals (repeat' (first | (refine ZE ?_; refine Zn (Zd rfl) rfl rfl ?_) | (refine Zj ?_; first | (refine Zf ?_; refine qQ ?_) | refine Zm ?_) | refine Za ?_ | (refine Zi ?_; refine Zt ?_) | (refine Zh ?_; refine Zs ?_) | intro _))
    all_goals rw [em]
    all_goals refine ZC (Zq _ _ ([Xi b P x S, Xr nb n, [(mb, .cells ⟨x.marks.map Yj ++ ms⟩ 28 (0, 0))]])) (Zy (hT := tk) (Hp.le_refl _)) ?_
    all_goals (refine ZU 0 ?_; refine ZS ?_; refine rNc 1 ?_; refine ZY 2 ?_; refine Yf 3 ?_; refine Yf 4 ?_; refine rSb 5 ?_; refine rIa 6 ?_; refine Yf 7 ?_; refine ZU 8 ?_; refine rNc 9 ?_; refine ZY 10 ?_; refine Yf 11 ?_; refine rCm 12 ?_; refine ZH ?_)
    all_goals (repeat' (first | (refine ZE ?_; refine Zn (Zd rfl) rfl rfl ?_) | (refine Zj ?_; first | (refine Zf ?_; refine qQ ?_) | refine Zm ?_) | refine Za ?_ | (refine Zi ?_; refine Zt ?_) | (refine Zh ?_; refine Zs ?_) | intro _))
    all_goals refine tc_phase 7 (Zq _ _ ([Xi b P x S, Xr nb n])) (by decide +kernel) (Zy (hT := tk) (Hp.le_refl _)) ?_
    all_goals simp only [List.take_succ_cons, List.take_zero]
    all_goals (refine ZU 0 ?_; refine ZU 1 ?_; refine rNc 2 ?_; refine ZY 3 ?_; refine Yf 4 ?_; refine Yf 5 ?_; refine rSl 6 ?_; refine ZH ?_)
    all_goals refine te_phase (fuel := 3) (m := [true, true, true, true, true, true, true, false, false, false]) (Zq _ _ ([])) rfl rfl (Zy (hT := tk) (Hp.le_refl _)) ?_
    all_goals (refine rNc 7 ?_; refine ZY 8 ?_)
    all_goals (refine Zp (i := 9) ?_; ((try refine Zk ?_); (first | (refine ZR (o := o) (P := P) rfl rfl hP rfl ?_) | (refine Zm ?_; try intro _)) <;> ((try simp only [kM, kN, kO]); refine Za ?_; refine Zl ?_)))
    all_goals refine ZH ?_
    all_goals (repeat' (first | (refine ZE ?_; refine Zn (Zd rfl) rfl rfl ?_) | (refine Zj ?_; first | (refine Zf ?_; refine qQ ?_) | refine Zm ?_) | refine Za ?_ | (refine Zi ?_; refine Zt ?_) | (refine Zh ?_; refine Zs ?_) | intro _))
    all_goals rw [← hcl]
    all_goals exact qE (L' := Xi b P { x with marks := x.marks.take n.toNat, mv := ⟨some ⟨mb, 0, none⟩, n.toNat, c⟩ } S :: Wd x ss :: XW { x with marks := x.marks.take n.toNat, mv := ⟨some ⟨mb, 0, none⟩, n.toNat, c⟩ } ((x.marks.drop n.toNat).map Yj ++ ms) :: [Xr nb n]) ⟨rfl, rfl, .inr ⟨by trivial, { x with marks := x.marks.take n.toNat, mv := ⟨some ⟨mb, 0, none⟩, n.toNat, c⟩ }, ss, (x.marks.drop n.toNat).map Yj ++ ms, rfl, ⟨hX.s, hown⟩, rfl⟩⟩
   ·simp only [if_pos (show x.marks.getD (n - 1).toNat 0 ≠ x.undo from h3)]
    generalize x.marks.getD (n - 1).toNat 0 = y at *
    repeat' (first | (refine ZE ?_; refine Zn (Zd rfl) rfl rfl ?_) | (refine Zj ?_; first | (refine Zf ?_; refine qQ ?_) | refine Zm ?_) | refine Za ?_ | (refine Zi ?_; refine Zt ?_) | (refine Zh ?_; refine Zs ?_) | intro _)
    refine ZC (Zq _ _ ([Xi b P x S, Xr nb n])) (Zy (hT := tk) (Hp.le_refl _)) ?_
    all_goals (refine Yf 0 ?_; refine ZS ?_; refine rCm 1 ?_; refine ZU 2 ?_; (first | refine Zc 3 ?_ | refine Zb 3 ?_ | refine wLd 3 ?_); (first | refine Zc 4 ?_ | refine Zb 4 ?_ | refine ZI 4 ?_); (first | refine Zc 5 ?_ | refine Zb 5 ?_ | refine wNc 5 ?_); (first | refine Zc 6 ?_ | refine Zb 6 ?_ | refine wFa 6 ?_); (first | refine Zc 7 ?_ | refine Zb 7 ?_ | refine wLd 7 ?_); (first | refine Zc 8 ?_ | refine Zb 8 ?_ | refine wBi 8 ?_); (first | refine Zc 9 ?_ | refine Zb 9 ?_ | refine wCm 9 ?_); refine rPk 10 ?_; refine ZH ?_)
    all_goals (repeat' (first | (refine ZE ?_; refine Zn (Zd rfl) rfl rfl ?_) | (refine Zj ?_; first | (refine Zf ?_; refine qQ ?_) | refine Zm ?_) | refine Za ?_ | (refine Zi ?_; refine Zt ?_) | (refine Zh ?_; refine Zs ?_) | intro _))
    all_goals rw [em]
    all_goals refine ZC (Zq _ _ ([Xi b P x S, Xr nb n, [(mb, .cells ⟨x.marks.map Yj ++ ms⟩ 28 (0, 0))]])) (Zy (hT := tk) (Hp.le_refl _)) ?_
    all_goals (refine ZU 0 ?_; refine ZS ?_; refine rNc 1 ?_; refine ZY 2 ?_; refine Yf 3 ?_; refine Yf 4 ?_; refine rSb 5 ?_; refine rIa 6 ?_; refine Yf 7 ?_; refine ZU 8 ?_; refine rNc 9 ?_; refine ZY 10 ?_; refine Yf 11 ?_; refine rCm 12 ?_; refine ZH ?_)
    all_goals (repeat' (first | (refine ZE ?_; refine Zn (Zd rfl) rfl rfl ?_) | (refine Zj ?_; first | (refine Zf ?_; refine qQ ?_) | refine Zm ?_) | refine Za ?_ | (refine Zi ?_; refine Zt ?_) | (refine Zh ?_; refine Zs ?_) | intro _))
    all_goals exact qE (L' := [] ++ [Xr nb n]) ⟨rfl, rfl, .inl ⟨by decide, [], rfl⟩⟩
def marksN (p : Yh) (num : Int) : Int := match Yq p num with | some t => ((t.marks.length + 1 : Nat) : Int) | none => 0
def whereV (p : Yh) (num n : Int) : Nat := match Yq p num with | some t => whereN n t | none => 0
theorem asksX_mark {nb : Nat} (p : Yh) (num : Int) : ∃ k : Int, asksX [Xr nb 0] (markX nb) p num = [Xr nb k] ∧ k = if Xo markF p num = 0 then marksN p num else 0 := by
 unfold asksX Xo askX askE marksN markX markF
 cases Xq p
 ·exact ⟨0, rfl, rfl⟩
 ·simp only [if_true]
  cases Yq p num with
  | none => exact ⟨0, rfl, rfl⟩
  | some t =>
   dsimp only
   by_cases h : t.state = 1
   ·simp only [if_pos h]
    by_cases h8 : 8 ≤ t.marks.length
    ·simp only [if_pos h8]; exact ⟨_, rfl, rfl⟩
    ·simp only [if_neg h8]; exact ⟨_, rfl, rfl⟩
   ·simp only [if_neg h]; exact ⟨0, rfl, rfl⟩
theorem asksX_where {nb mb : Nat} {n : Int} (p : Yh) (num : Int) : ∃ k : Nat, asksX [Xr nb n, u64C mb 0] (whereX nb mb n) p num = [Xr nb n, u64C mb k] ∧ k = if Xo (whereF n) p num = 0 then whereV p num n else 0 := by
 unfold asksX Xo askX askE whereV whereX
 cases Xq p
 ·exact ⟨0, rfl, rfl⟩
 ·simp only [if_true]
  cases Yq p num with
  | none => exact ⟨0, rfl, rfl⟩
  | some t =>
   dsimp only
   by_cases h : t.state = 1
   ·simp only [if_pos h]; exact ⟨_, rfl, rfl⟩
   ·simp only [if_neg h]; exact ⟨0, rfl, rfl⟩
theorem asksX_cut {nb : Nat} {n : Int} (p : Yh) (num : Int) : asksX [Xr nb n] (fun _ => [Xr nb n]) p num = [Xr nb n] := by
 unfold asksX askX
 cases Xq p
 ·rfl
 ·simp only [if_true]
  cases Yq p num with
  | none => rfl
  | some t => dsimp only; split <;> rfl
def markE (p : Yh) (num : Int) : Int := Xo markF p num
def ZT (p : Yh) (num : Int) : Yh := asksP markF Xk p num
def markK (p : Yh) (num : Int) : Int := if markE p num = 0 then marksN p num else 0
theorem mark_spec (ρ : Hp) (v : SV) (ro : Ros) (h : RosIn ρ v ro) (num : Int) : Spec Tryz.prog 13 [.agg ⟨Yx v ro⟩, .int .i64 num] ρ []
  (fun z ρ' L' => ρ.le ρ' ∧ ((markE ro.p num ≠ 0 ∧ z = .tuple ⟨[.agg ⟨[.int .i64 0, .slice none 0 0]⟩, .int .i64 0, .int .i64 (markE ro.p num)]⟩ ∧ L' = []) ∨
   (markE ro.p num = 0 ∧ ∃ vv sp os, OwnR vv sp os (ZT ro.p num).txns ∧ z = .tuple ⟨[.agg ⟨[.int .i64 (ZT ro.p num).next, vv]⟩, .int .i64 (marksN ro.p num), .int .i64 0]⟩ ∧ L' = Xs vv sp os))) := by
 have ha := fun nb => asks_spec ρ v ro h num 43 [.pointer (some ⟨nb, 0, none⟩)] [Xr nb 0] (markX nb) markF Xk (fun _ => rfl) (fun ρ1 _ b o P x S ss ms hP hX hx _ => mark1_spec ρ1 nb b o P x S ss ms hP hX hx)
 refine Zg Tryz.func13 rfl rfl rfl fun u R => ?_
 simp only [Zx, List.cons_append, List.nil_append]
 have hx := fun nb => asksX_mark (nb := nb) ro.p num
 unfold markE ZT
 generalize asksP markF Xk ro.p num = pa at *
 generalize Xo markF ro.p num = e at *
 repeat' (first | (refine ZE ?_; refine Zn (Zd rfl) rfl rfl ?_) | (refine Zj ?_; first | (refine Zf ?_; refine qQ ?_) | refine Zm ?_) | refine Za ?_ | (refine Zi ?_; refine Zt ?_) | (refine Zh ?_; refine Zs ?_) | intro _)
 rename_i nb
 obtain ⟨k, hx1, hx2⟩ := hx nb
 have ha1 := ha nb
 rw [hx1] at ha1
 refine Ze (.func 42) ?_
 refine qC rfl rfl ha1 ?_
 rintro z ρ3 L3 hle3 ⟨hl1, ⟨he, rfl, rfl⟩ | ⟨he, vv, sp, os, hR, rfl, rfl⟩⟩ <;> simp only [List.cons_append, List.nil_append]
 ·rw [if_neg he] at hx2
  subst hx2
  repeat' (first | (refine ZE ?_; refine Zn (Zd rfl) rfl rfl ?_) | (refine Zj ?_; first | (refine Zf ?_; refine qQ ?_) | refine Zm ?_) | refine Za ?_ | (refine Zi ?_; refine Zt ?_) | (refine Zh ?_; refine Zs ?_) | intro _)
  refine ZC (Zq _ _ _) ZF ?_
  all_goals (refine Yf 0 ?_; refine Yf 1 ?_; refine ZU 2 ?_)
  all_goals (refine Zp (i := 3) ?_; ((try refine Zk ?_); (first | (refine Zm ?_; try intro _)) <;> ((try simp only [kM, kN, kO]); refine Za ?_; refine Zl ?_)))
  all_goals (refine ZS ?_; refine rAs 4 ?_; refine rAs 5 ?_; refine ZH ?_)
  all_goals (repeat' (first | (refine ZE ?_; refine Zn (Zd rfl) rfl rfl ?_) | (refine Zj ?_; first | (refine Zf ?_; refine qQ ?_) | refine Zm ?_) | refine Za ?_ | (refine Zi ?_; refine Zt ?_) | (refine Zh ?_; refine Zs ?_) | intro _))
  all_goals exact qE (L' := []) ⟨hl1, .inl ⟨he, rfl, rfl⟩⟩
 ·subst he
  rw [if_pos rfl] at hx2
  subst hx2
  obtain ⟨va, vc, rfl, _⟩ := hR.own.slice
  repeat' (first | (refine ZE ?_; refine Zn (Zd rfl) rfl rfl ?_) | (refine Zj ?_; first | (refine Zf ?_; refine qQ ?_) | refine Zm ?_) | refine Za ?_ | (refine Zi ?_; refine Zt ?_) | (refine Zh ?_; refine Zs ?_) | intro _)
  refine ZC (Zq _ _ ([[(_, .cells ⟨[.int .i64 pa.next, .slice va os.length vc]⟩ 26 (0, 0))], Xr nb (marksN ro.p num)])) (Zy (hT := tk) (Hp.le_refl _)) ?_
  all_goals (refine Yf 0 ?_; refine Yf 1 ?_; refine ZU 2 ?_)
  all_goals (refine Zp (i := 3) ?_; ((try refine Zk ?_); (first | (refine Zm ?_; try intro _)) <;> ((try simp only [kM, kN, kO]); refine Za ?_; refine Zl ?_)))
  all_goals (refine ZS ?_; refine rAs 4 ?_; refine rAs 5 ?_; refine ZH ?_)
  all_goals (repeat' (first | (refine ZE ?_; refine Zn (Zd rfl) rfl rfl ?_) | (refine Zj ?_; first | (refine Zf ?_; refine qQ ?_) | refine Zm ?_) | refine Za ?_ | (refine Zi ?_; refine Zt ?_) | (refine Zh ?_; refine Zs ?_) | intro _))
  all_goals exact qE (L' := Xs _ sp os) ⟨hl1, .inr ⟨by trivial, _, sp, os, hR, rfl, rfl⟩⟩
def whereE (p : Yh) (num n : Int) : Int := Xo (whereF n) p num
theorem where_spec (ρ : Hp) (v : SV) (ro : Ros) (h : RosIn ρ v ro) (num n : Int) (hn : i64in n) : Spec Tryz.prog 14 [.agg ⟨Yx v ro⟩, .int .i64 num, .int .i64 n] ρ []
  (fun z ρ' L' => ρ.le ρ' ∧ z = .tuple ⟨[.int .u64 (if whereE ro.p num n = 0 then whereV ro.p num n else 0 : Nat), .int .i64 (whereE ro.p num n)]⟩ ∧ L' = []) := by
 have ha := fun nb mb => asks_spec ρ v ro h num 44 [.pointer (some ⟨nb, 0, none⟩), .pointer (some ⟨mb, 0, none⟩)] [Xr nb n, u64C mb 0] (whereX nb mb n) (whereF n) id (fun _ => rfl) (fun ρ1 _ b o P x S ss ms hP hX hx _ => where1_spec ρ1 nb mb n hn b o P x S ss ms hP hX hx)
 refine Zg Tryz.func14 rfl rfl rfl fun u R => ?_
 simp only [Zx, List.cons_append, List.nil_append]
 have hx := fun nb mb => asksX_where (nb := nb) (mb := mb) (n := n) ro.p num
 unfold whereE
 generalize asksP (whereF n) id ro.p num = pa at *
 generalize Xo (whereF n) ro.p num = e at *
 generalize whereV ro.p num n = wv at *
 repeat' (first | (refine ZE ?_; refine Zn (Zd rfl) rfl rfl ?_) | (refine Zj ?_; first | (refine Zf ?_; refine qQ ?_) | refine Zm ?_) | refine Za ?_ | (refine Zi ?_; refine Zt ?_) | (refine Zh ?_; refine Zs ?_) | intro _)
 rename_i nb mb
 obtain ⟨k, hx1, hx2⟩ := hx nb mb
 have ha1 := ha nb mb
 rw [hx1] at ha1
 refine Ze (.func 42) ?_
 refine qC rfl rfl ha1 ?_
 rintro z ρ3 L3 hle3 ⟨hl1, ⟨he, rfl, rfl⟩ | ⟨he, vv, sp, os, hR, rfl, rfl⟩⟩ <;> simp only [List.cons_append, List.nil_append]
 ·repeat' (first | (refine ZE ?_; refine Zn (Zd rfl) rfl rfl ?_) | (refine Zj ?_; first | (refine Zf ?_; refine qQ ?_) | refine Zm ?_) | refine Za ?_ | (refine Zi ?_; refine Zt ?_) | (refine Zh ?_; refine Zs ?_) | intro _)
  rw [← hx2]
  exact qE (L' := []) ⟨hl1, rfl, rfl⟩
 ·subst he
  obtain ⟨va, vc, rfl, _⟩ := hR.own.slice
  repeat' (first | (refine ZE ?_; refine Zn (Zd rfl) rfl rfl ?_) | (refine Zj ?_; first | (refine Zf ?_; refine qQ ?_) | refine Zm ?_) | refine Za ?_ | (refine Zi ?_; refine Zt ?_) | (refine Zh ?_; refine Zs ?_) | intro _)
  rw [← hx2]
  exact qE (L' := []) ⟨hl1, rfl, rfl⟩
def cutE (p : Yh) (num n : Int) : Int := Xo (cutF n) p num
def cutP (p : Yh) (num n : Int) : Yh := asksP (cutF n) (cutG n) p num
theorem cutR_spec (ρ : Hp) (v : SV) (ro : Ros) (h : RosIn ρ v ro) (num n : Int) (hn : i64in n) : Spec Tryz.prog 15 [.agg ⟨Yx v ro⟩, .int .i64 num, .int .i64 n] ρ []
  (fun z ρ' L' => ρ.le ρ' ∧ ((cutE ro.p num n ≠ 0 ∧ z = .tuple ⟨[.agg ⟨[.int .i64 0, .slice none 0 0]⟩, .int .i64 (cutE ro.p num n)]⟩ ∧ L' = []) ∨
   (cutE ro.p num n = 0 ∧ ∃ vv sp os, OwnR vv sp os (cutP ro.p num n).txns ∧ z = .tuple ⟨[.agg ⟨[.int .i64 (cutP ro.p num n).next, vv]⟩, .int .i64 0]⟩ ∧ L' = Xs vv sp os))) := by
 have ha := fun nb => asks_spec ρ v ro h num 45 [.pointer (some ⟨nb, 0, none⟩)] [Xr nb n] (fun _ => [Xr nb n]) (cutF n) (cutG n) (fun _ => rfl) (fun ρ1 _ b o P x S ss ms hP hX hx _ => cut1_spec ρ1 nb n hn b o P x S ss ms hP hX hx)
 refine Zg Tryz.func15 rfl rfl rfl fun u R => ?_
 simp only [Zx, List.cons_append, List.nil_append]
 simp only [asksX_cut] at ha
 unfold cutE cutP
 generalize asksP (cutF n) (cutG n) ro.p num = pa at *
 generalize Xo (cutF n) ro.p num = e at *
 repeat' (first | (refine Ze (.func 42) ?_; refine qC rfl rfl (ha _) ?_; rintro v ρ' L' hle ⟨hl1, ⟨he, rfl, rfl⟩ | ⟨he, vv, sp, os, hR, rfl, rfl⟩⟩ <;> (try simp only [kM, kN, kO])) | (refine ZE ?_; refine Zn (Zd rfl) rfl rfl ?_) | (refine Zj ?_; first | (refine Zf ?_; refine qQ ?_) | refine Zm ?_) | refine Za ?_ | (refine Zi ?_; refine Zt ?_) | (refine Zh ?_; refine Zs ?_) | intro _)
 ·repeat' (first | (refine ZE ?_; refine Zn (Zd rfl) rfl rfl ?_) | (refine Zj ?_; first | (refine Zf ?_; refine qQ ?_) | refine Zm ?_) | refine Za ?_ | (refine Zi ?_; refine Zt ?_) | (refine Zh ?_; refine Zs ?_) | intro _)
  exact qE (L' := []) ⟨hl1, .inl ⟨he, rfl, rfl⟩⟩
 ·subst he
  obtain ⟨va, vc, rfl, _⟩ := hR.own.slice
  repeat' (first | (refine ZE ?_; refine Zn (Zd rfl) rfl rfl ?_) | (refine Zj ?_; first | (refine Zf ?_; refine qQ ?_) | refine Zm ?_) | refine Za ?_ | (refine Zi ?_; refine Zt ?_) | (refine Zh ?_; refine Zs ?_) | intro _)
  exact qE (L' := Xs _ sp os) ⟨hl1, .inr ⟨by trivial, _, sp, os, hR, rfl, rfl⟩⟩
def costL (t : TxP) : List Int := 1 :: ((if t.state = 1 then [1] else []) ++ t.stack.map Lf.cost)
def resL (l : List TxP) : List Int := l.flatMap costL
def resN (p : Yh) : Int := (resL p.txns).sum
def leastF : Nat → List TxP → Nat
 | n, [] => n
 | n, t :: r => leastF (if n = 0 ∨ t.first < n then t.first else n) r
def leastP (p : Yh) : Nat := leastF 0 p.txns
theorem costL_len {t : TxP} (h : TxG t) : (costL t).length ≤ 1099511627780 := by
 have := h.sl
 unfold costL
 simp only [List.length_cons, List.length_append, List.length_map]
 split <;> simp <;> omega
theorem costL_in {t : TxP} (h : TxG t) : ∀ x ∈ costL t, 0 ≤ x ∧ x ≤ 400 := fun x hx => by
 unfold costL at hx
 rcases List.mem_cons.1 hx with rfl | hx
 ·omega
 ·rcases List.mem_append.1 hx with hx | hx
  ·split at hx
   ·rw [List.mem_singleton] at hx; omega
   ·cases hx
  ·obtain ⟨s, hs, rfl⟩ := List.mem_map.1 hx
   have := h.st s hs; omega
theorem resL_len : ∀ {l : List TxP}, (∀ t ∈ l, TxG t) → (resL l).length ≤ l.length * 1099511627780
 | [], _ => by simp [resL]
 | t :: r, h => by
  have h1 := costL_len (h t (by simp))
  have h2 := resL_len (l := r) (fun x hx => h x (by simp [hx]))
  have e : resL (t :: r) = costL t ++ resL r := rfl
  rw [e, List.length_append, List.length_cons]; omega
theorem resL_in {l : List TxP} (h : ∀ t ∈ l, TxG t) : ∀ x ∈ resL l, 0 ≤ x ∧ x ≤ 400 := fun x hx => by
 obtain ⟨t, ht, hx⟩ := List.mem_flatMap.1 hx
 exact costL_in (h t ht) x hx
theorem resL_take (l : List TxP) (k : Nat) (h : k < l.length) : resL (l.take (k + 1)) = resL (l.take k) ++ costL l[k] := by
 unfold resL
 rw [List.take_succ_eq_append_getElem h, List.flatMap_append]; simp
theorem sum_bound {l : List Int} (h : ∀ x ∈ l, 0 ≤ x ∧ x ≤ 400) : 0 ≤ l.sum ∧ l.sum ≤ 400 * (l.length : Int) := by
 induction l with
 | nil => simp
 | cons a r ih =>
  have h1 := h a (by simp)
  have h2 := ih (fun x hx => h x (by simp [hx]))
  rw [List.sum_cons, List.length_cons]; omega
theorem sum_take (l : List Int) (k : Nat) (h : k < l.length) : (l.take (k + 1)).sum = (l.take k).sum + l[k] := by
 rw [List.take_succ_eq_append_getElem h, List.sum_append]; simp
theorem rsum_spec (ρ : Hp) (a : Option Addr) (n c : Nat) (l : List Int) (h : SIn ρ iV a n l) (hb : ∀ x ∈ l, 0 ≤ x ∧ x ≤ 400) (hn : n ≤ 10000000000000000) : Spec Tryz.prog 56 [.slice a n c] ρ []
  (fun z ρ' L' => z = .int .i64 l.sum ∧ ρ' = ρ ∧ L' = []) := by
 have hl := h.len
 refine Zg Tryz.func56 rfl rfl rfl fun u R => ?_
 simp only [Zx, List.cons_append, List.nil_append]
 repeat' (first | (refine ZE ?_; refine Zn (Zd rfl) rfl rfl ?_) | (refine Zj ?_; first | (refine Zf ?_; refine qQ ?_) | refine Zm ?_) | refine Za ?_ | (refine Zi ?_; refine Zt ?_) | (refine Zh ?_; refine Zs ?_) | intro _)
 refine ZG [(2, _), (6, _), (7, _)] (fun (ζ : (Nat) × (Int)) => [(8, .int .i64 ζ.1), (3, .int .i64 ζ.2)]) (fun (ζ : (Nat) × (Int)) => ρ) (fun (ζ : (Nat) × (Int)) => []) (fun (ζ : (Nat) × (Int)) => ζ.1 ≤ n ∧ ζ.2 = (l.take ζ.1).sum) (fun (ζ : (Nat) × (Int)) => n - ζ.1) ((0, 0)) (⟨Nat.zero_le _, by simp⟩) Zo Zo rfl tk ?_
 rintro ⟨k, s⟩ hI
 try simp only [List.cons_append, List.nil_append, List.append_assoc, List.append_eq] at hI ⊢
 try dsimp only at hI ⊢
 obtain ⟨hk, hs⟩ := hI
 by_cases hlt : k < n
 ·obtain ⟨b, off, C, T, fr, rfl, hbb, hc⟩ := h.get (show k < l.length by omega)
  have hx := sum_take l k (by omega)
  have hbd := sum_bound (l := l.take k) (fun x hx => hb x (List.mem_of_mem_take hx))
  have hbe := hb _ (List.getElem_mem (show k < l.length by omega))
  rw [List.length_take] at hbd
  generalize l[k]'(by omega) = y at *
  rw [← hs] at hx hbd
  repeat' (first | (refine ZE ?_; refine Zn (Zd rfl) rfl rfl ?_) | (refine Zj ?_; first | (refine Zf ?_; refine qQ ?_) | refine Zm ?_) | refine Za ?_ | (refine Zi ?_; refine Zt ?_) | (refine Zh ?_; refine Zs ?_) | intro _)
  refine Zr (k + 1, s + y) (⟨hlt, hx.symm⟩) Zo Zo rfl tk inferInstance (by first | omega | (dsimp only; omega))
 ·rw [List.take_of_length_le (by omega)] at hs
  subst hs
  repeat' (first | (refine ZE ?_; refine Zn (Zd rfl) rfl rfl ?_) | (refine Zj ?_; first | (refine Zf ?_; refine qQ ?_) | refine Zm ?_) | refine Za ?_ | (refine Zi ?_; refine Zt ?_) | (refine Zh ?_; refine Zs ?_) | intro _)
  exact qE (L' := []) ⟨rfl, rfl, rfl⟩
theorem reserved_spec (ρ : Hp) (v : SV) (r : Ros) (h : RosIn ρ v r) : Spec Tryz.prog 20 [.agg ⟨Yx v r⟩] ρ []
  (fun z ρ' L' => ρ.le ρ' ∧ z = .int .i64 (if XY r then resN r.p else 0) ∧ L' = []) := by
 have hl := h.at'.at'.len
 have hA := h.at'.at'
 have hck := XN ρ v r h
 refine Zg Tryz.func20 rfl rfl rfl fun u R => ?_
 simp only [Zx, List.cons_append, List.nil_append]
 cases hok : XY r
 ·rw [hok] at hck
  simp only [Bool.false_eq_true, if_false] at hck ⊢
  repeat' (first | (refine Ze (.func 55) ?_; refine qC rfl rfl (hck) ?_; rintro v ρ' L' hle ⟨rfl, rfl, rfl⟩ <;> (try simp only [kM, kN, kO])) | (refine ZE ?_; refine Zn (Zd rfl) rfl rfl ?_) | (refine Zj ?_; first | (refine Zf ?_; refine qQ ?_) | refine Zm ?_) | refine Za ?_ | (refine Zi ?_; refine Zt ?_) | (refine Zh ?_; refine Zs ?_) | intro _)
  exact qE (L' := []) ⟨Hp.le_refl _, rfl, rfl⟩
 ·have hG : RosG r.p := Yw.1 (by rw [XA]; exact hok)
  have h8 := hG.len
  have hpl : r.p.txns.length = r.txns.length := by simp [Ros.p]
  have hgs : ∀ t ∈ r.p.txns, TxG t := fun t ht => (hG.tx t ht).2.2
  rw [hok] at hck
  simp only [if_true] at hck ⊢
  repeat' (first | (refine Ze (.func 55) ?_; refine qC rfl rfl (hck) ?_; rintro v ρ' L' hle ⟨rfl, rfl, rfl⟩ <;> (try simp only [kM, kN, kO])) | (refine ZE ?_; refine Zn (Zd rfl) rfl rfl ?_) | (refine Zj ?_; first | (refine Zf ?_; refine qQ ?_) | refine Zm ?_) | refine Za ?_ | (refine Zi ?_; refine Zt ?_) | (refine Zh ?_; refine Zs ?_) | intro _)
  refine ZG [(2, _), (12, _), (13, _)] (fun (ζ : (Nat) × (Value) × (List Value) × (Nat)) => [(14, .int .i64 ζ.1), (3, ζ.2.1)]) (fun (ζ : (Nat) × (Value) × (List Value) × (Nat)) => ρ') (fun (ζ : (Nat) × (Value) × (List Value) × (Nat)) => [ZZ ζ.2.1 ((resL (r.p.txns.take ζ.1)).map iV) ζ.2.2.1 3]) (fun (ζ : (Nat) × (Value) × (List Value) × (Nat)) => ζ.1 ≤ v.n ∧ ζ.2.2.2 = (resL (r.p.txns.take ζ.1)).length ∧ OwnS ζ.2.1 ζ.2.2.2 ((resL (r.p.txns.take ζ.1)).map iV) ζ.2.2.1 1) (fun (ζ : (Nat) × (Value) × (List Value) × (Nat)) => v.n - ζ.1) ((0, .slice none 0 0, [], 0)) (⟨Nat.zero_le _, rfl, OwnS.nil 1⟩) Zo Zo rfl tk ?_
  rintro ⟨k, vv, sp, n⟩ hI
  try simp only [List.cons_append, List.nil_append, List.append_assoc, List.append_eq] at hI ⊢
  try dsimp only at hI ⊢
  obtain ⟨hk, hn, hown⟩ := hI
  have hnb := resL_len (l := r.p.txns.take k) (fun t ht => hgs t (List.mem_of_mem_take ht))
  rw [List.length_take] at hnb
  by_cases hlt : k < v.n
  ·obtain ⟨b, off, C, T, fr, e1, hb, hfit, hc⟩ := hA.get (show k < r.txns.length by omega)
   have hx2 := resL_take r.p.txns k (by omega)
   have hpk : r.p.txns[k]'(by omega) = (r.txns[k]'(by omega)).p := by simp [Ros.p]
   have hin := h.tx _ (List.getElem_mem (show k < r.txns.length by omega))
   have hxg : TxG (r.txns[k]'(by omega)).p := hgs _ (by rw [← hpk]; exact List.getElem_mem _)
   rw [hpk] at hx2
   generalize r.txns[k]'(by omega) = x at *
   have hsl : x.stack.length ≤ 1099511627776 := hxg.sl
   have hs1 := hin.s.len
   rw [e1]
   generalize hRL : resL (r.p.txns.take k) = RL at *
   have hcost : ∃ B : List Int, B = 1 :: (if x.state = 1 then [1] else []) ∧ costL x.p = B ++ x.stack.map Lf.cost ∧ B.length ≤ 2 := by
    refine ⟨_, rfl, by unfold costL; simp [Tx.p], ?_⟩
    split <;> simp
   obtain ⟨B, hB, hcB, hBl⟩ := hcost
   by_cases hst : x.state = 1
   ·rw [if_pos hst] at hB
    subst hB
    repeat' (first | (refine Zz rfl rfl rfl rfl (by simp) rfl rfl (fun bs => ?_)) | (refine Xp (ys := [iV 1]) (m := 1) rfl rfl hown (hR := by infer_instance) SrcV.lit rfl rfl (by decide) rfl (by omega) (by omega) rfl (fun v1 sp1 hown1 => ?_)) | (refine Xp (ys := [iV 1]) (m := 1) rfl rfl hown1 (hR := by infer_instance) SrcV.lit rfl rfl (by decide) rfl (by omega) (by omega) rfl (fun v2 sp2 hown2 => ?_)) | (refine ZE ?_; refine Zn (Zd rfl) rfl rfl ?_) | (refine Zj ?_; first | (refine Zf ?_; refine qQ ?_) | refine Zm ?_) | refine Za ?_ | (refine Zi ?_; refine Zt ?_) | (refine Zh ?_; refine Zs ?_) | intro _)
    have hm2 : RL.map iV ++ [iV 1] ++ [iV 1] = (RL ++ [1, 1]).map iV := by simp
    rw [hm2] at hown2 ⊢
    refine ZG [(2, _), (5, _), (12, _), (13, _), (14, _), (28, _), (29, _)] (fun (ζ : (Nat) × (Value) × (List Value) × (Nat) × (List Int)) => [(30, .int .i64 ζ.1), (3, ζ.2.1)]) (fun (ζ : (Nat) × (Value) × (List Value) × (Nat) × (List Int)) => ρ') (fun (ζ : (Nat) × (Value) × (List Value) × (Nat) × (List Int)) => [ZZ ζ.2.1 (ζ.2.2.2.2.map iV) ζ.2.2.1 3]) (fun (ζ : (Nat) × (Value) × (List Value) × (Nat) × (List Int)) => ζ.1 ≤ x.sv.n ∧ ζ.2.2.2.1 = n + 2 + ζ.1 ∧ ζ.2.2.2.2 = RL ++ [1, 1] ++ (x.stack.take ζ.1).map Lf.cost ∧ OwnS ζ.2.1 ζ.2.2.2.1 (ζ.2.2.2.2.map iV) ζ.2.2.1 1) (fun (ζ : (Nat) × (Value) × (List Value) × (Nat) × (List Int)) => x.sv.n - ζ.1) ((0, v2, sp2, n + 2, RL ++ [1, 1])) (⟨Nat.zero_le _, rfl, by simp, hown2⟩) Zo Zo rfl tk ?_
    rintro ⟨j, v4, sp4, m, W⟩ hI
    try simp only [List.cons_append, List.nil_append, List.append_assoc, List.append_eq] at hI ⊢
    try dsimp only at hI ⊢
    obtain ⟨hj, hm, hW, hown4⟩ := hI
    by_cases hlt2 : j < x.sv.n
    ·obtain ⟨b2, off2, C2, T2, fr2, f1, hb2, hfit2, hc2⟩ := hin.s.get (show j < x.stack.length by omega)
     have hy := List.take_succ_eq_append_getElem (show j < x.stack.length by omega)
     generalize x.stack[j]'(by omega) = y at *
     rw [f1]
     repeat' (first | (refine Zz rfl rfl rfl rfl (by simp) rfl rfl (fun bs3 => ?_)) | (refine Xp (ys := [iV y.cost]) (m := 1) rfl rfl hown4 (hR := by infer_instance) SrcV.lit rfl rfl (by decide) rfl (by omega) (by omega) rfl (fun v5 sp5 hown5 => ?_)) | (refine ZE ?_; refine Zn (Zd rfl) rfl rfl ?_) | (refine Zj ?_; first | (refine Zf ?_; refine qQ ?_) | refine Zm ?_) | refine Za ?_ | (refine Zi ?_; refine Zt ?_) | (refine Zh ?_; refine Zs ?_) | intro _)
     have hm3 : W.map iV ++ [iV y.cost] = (W ++ [y.cost]).map iV := by simp
     rw [hm3] at hown5 ⊢
     rw [← f1]
     refine Zr (j + 1, v5, sp5, m + 1, W ++ [y.cost]) (⟨hlt2, by dsimp only; omega, by dsimp only; rw [hW, hy]; simp, hown5⟩) Zo Zo rfl tk inferInstance (by first | omega | (dsimp only; omega))
    ·have hj2 : x.stack.take j = x.stack := List.take_of_length_le (by omega)
     have hfin : W = resL (r.p.txns.take (k + 1)) := by rw [hW, hj2, hx2, hcB]; simp
     have hfl : m = (resL (r.p.txns.take (k + 1))).length := by rw [← hfin, hW, hj2]; simp; omega
     rw [hfin] at hown4 ⊢
     repeat' (first | (refine ZE ?_; refine Zn (Zd rfl) rfl rfl ?_) | (refine Zj ?_; first | (refine Zf ?_; refine qQ ?_) | refine Zm ?_) | refine Za ?_ | (refine Zi ?_; refine Zt ?_) | (refine Zh ?_; refine Zs ?_) | intro _)
     rw [← e1]
     refine Zr (k + 1, v4, sp4, m) (⟨hlt, hfl, hown4⟩) Zo Zo rfl tk inferInstance (by first | omega | (dsimp only; omega))
   ·rw [if_neg hst] at hB
    subst hB
    repeat' (first | (refine Zz rfl rfl rfl rfl (by simp) rfl rfl (fun bs => ?_)) | (refine Xp (ys := [iV 1]) (m := 1) rfl rfl hown (hR := by infer_instance) SrcV.lit rfl rfl (by decide) rfl (by omega) (by omega) rfl (fun v1 sp1 hown1 => ?_)) | (refine ZE ?_; refine Zn (Zd rfl) rfl rfl ?_) | (refine Zj ?_; first | (refine Zf ?_; refine qQ ?_) | refine Zm ?_) | refine Za ?_ | (refine Zi ?_; refine Zt ?_) | (refine Zh ?_; refine Zs ?_) | intro _)
    have hm2 : RL.map iV ++ [iV 1] = (RL ++ [1]).map iV := by simp
    rw [hm2] at hown1 ⊢
    refine ZG [(2, _), (5, _), (12, _), (13, _), (14, _), (28, _), (29, _)] (fun (ζ : (Nat) × (Value) × (List Value) × (Nat) × (List Int)) => [(30, .int .i64 ζ.1), (3, ζ.2.1)]) (fun (ζ : (Nat) × (Value) × (List Value) × (Nat) × (List Int)) => ρ') (fun (ζ : (Nat) × (Value) × (List Value) × (Nat) × (List Int)) => [ZZ ζ.2.1 (ζ.2.2.2.2.map iV) ζ.2.2.1 3]) (fun (ζ : (Nat) × (Value) × (List Value) × (Nat) × (List Int)) => ζ.1 ≤ x.sv.n ∧ ζ.2.2.2.1 = n + 1 + ζ.1 ∧ ζ.2.2.2.2 = RL ++ [1] ++ (x.stack.take ζ.1).map Lf.cost ∧ OwnS ζ.2.1 ζ.2.2.2.1 (ζ.2.2.2.2.map iV) ζ.2.2.1 1) (fun (ζ : (Nat) × (Value) × (List Value) × (Nat) × (List Int)) => x.sv.n - ζ.1) ((0, v1, sp1, n + 1, RL ++ [1])) (⟨Nat.zero_le _, rfl, by simp, hown1⟩) Zo Zo rfl tk ?_
    rintro ⟨j, v4, sp4, m, W⟩ hI
    try simp only [List.cons_append, List.nil_append, List.append_assoc, List.append_eq] at hI ⊢
    try dsimp only at hI ⊢
    obtain ⟨hj, hm, hW, hown4⟩ := hI
    by_cases hlt2 : j < x.sv.n
    ·obtain ⟨b2, off2, C2, T2, fr2, f1, hb2, hfit2, hc2⟩ := hin.s.get (show j < x.stack.length by omega)
     have hy := List.take_succ_eq_append_getElem (show j < x.stack.length by omega)
     generalize x.stack[j]'(by omega) = y at *
     rw [f1]
     repeat' (first | (refine Zz rfl rfl rfl rfl (by simp) rfl rfl (fun bs3 => ?_)) | (refine Xp (ys := [iV y.cost]) (m := 1) rfl rfl hown4 (hR := by infer_instance) SrcV.lit rfl rfl (by decide) rfl (by omega) (by omega) rfl (fun v5 sp5 hown5 => ?_)) | (refine ZE ?_; refine Zn (Zd rfl) rfl rfl ?_) | (refine Zj ?_; first | (refine Zf ?_; refine qQ ?_) | refine Zm ?_) | refine Za ?_ | (refine Zi ?_; refine Zt ?_) | (refine Zh ?_; refine Zs ?_) | intro _)
     have hm3 : W.map iV ++ [iV y.cost] = (W ++ [y.cost]).map iV := by simp
     rw [hm3] at hown5 ⊢
     rw [← f1]
     refine Zr (j + 1, v5, sp5, m + 1, W ++ [y.cost]) (⟨hlt2, by dsimp only; omega, by dsimp only; rw [hW, hy]; simp, hown5⟩) Zo Zo rfl tk inferInstance (by first | omega | (dsimp only; omega))
    ·have hj2 : x.stack.take j = x.stack := List.take_of_length_le (by omega)
     have hfin : W = resL (r.p.txns.take (k + 1)) := by rw [hW, hj2, hx2, hcB]; simp
     have hfl : m = (resL (r.p.txns.take (k + 1))).length := by rw [← hfin, hW, hj2]; simp; omega
     rw [hfin] at hown4 ⊢
     repeat' (first | (refine ZE ?_; refine Zn (Zd rfl) rfl rfl ?_) | (refine Zj ?_; first | (refine Zf ?_; refine qQ ?_) | refine Zm ?_) | refine Za ?_ | (refine Zi ?_; refine Zt ?_) | (refine Zh ?_; refine Zs ?_) | intro _)
     rw [← e1]
     refine Zr (k + 1, v4, sp4, m) (⟨hlt, hfl, hown4⟩) Zo Zo rfl tk inferInstance (by first | omega | (dsimp only; omega))
  ·have hk2 : k = r.p.txns.length := by omega
   rw [show r.p.txns.take k = r.p.txns by rw [hk2, List.take_length]] at hown hn hnb ⊢
   refine tc_freeze (ZZ vv ((resL r.p.txns).map iV) sp 3) (fun ρ3 hle3 hfz => ?_)
   obtain ⟨sa, sc, e1, hsc, hA2⟩ := hown.sIn hfz
   subst e1
   have hsm := rsum_spec ρ3 sa n sc (resL r.p.txns) hA2 (resL_in hgs) (by omega)
   unfold resN
   repeat' (first | (refine Ze (.func 56) ?_; refine qC rfl rfl (hsm) ?_; rintro v ρ' L' hle ⟨rfl, rfl, rfl⟩ <;> (try simp only [kM, kN, kO])) | (refine ZE ?_; refine Zn (Zd rfl) rfl rfl ?_) | (refine Zj ?_; first | (refine Zf ?_; refine qQ ?_) | refine Zm ?_) | refine Za ?_ | (refine Zi ?_; refine Zt ?_) | (refine Zh ?_; refine Zs ?_) | intro _)
   exact qE (L' := []) ⟨hle3, rfl, rfl⟩
instance (priority := 1200) eqCkT {x y : CkT} : EqC Tryz.prog 8 169 (.agg ⟨ckTV x⟩) (.agg ⟨ckTV y⟩) (decide (x = y)) := by
 have h : EqC Tryz.prog 8 169 (.agg ⟨[.int .i64 x.txn, .int .u64 x.first, .int .u64 x.last, .int .u64 x.undo, .int .i64 x.state]⟩) (.agg ⟨[.int .i64 y.txn, .int .u64 y.first, .int .u64 y.last, .int .u64 y.undo, .int .i64 y.state]⟩) _ := inferInstance
 refine ⟨fun d w hd => ?_⟩
 rw [h.out d w hd]
 congr 1
 obtain ⟨t, a, b, c, s⟩ := x
 obtain ⟨t', a', b', c', s'⟩ := y
 simp only [CkT.mk.injEq, Bool.and_true, Bool.decide_and]
 have e : ∀ i i' : Nat, ((i : Int) == (i' : Int)) = decide (i = i') := fun i i' => by
  by_cases h : i = i'
  ·subst h; simp
  ·rw [decide_eq_false h]; simp only [beq_eq_false_iff_ne, ne_eq]; omega
 rw [e, e, e]
 have e2 : ∀ i i' : Int, (i == i') = decide (i = i') := fun i i' => by
  by_cases h : i = i' <;> simp [h]
 rw [e2, e2]
instance (priority := 1200) eqStp {x y : Stp} : EqC Tryz.prog 8 60 (.agg ⟨stpV x⟩) (.agg ⟨stpV y⟩) (decide (x = y)) := by
 have h : EqC Tryz.prog 8 60 (.agg ⟨[.int .i64 x.kind, .int .i64 x.row.t, .int .u16 x.row.id, .int .i64 x.row.val, strV x.row.note, .int .i64 x.by']⟩) (.agg ⟨[.int .i64 y.kind, .int .i64 y.row.t, .int .u16 y.row.id, .int .i64 y.row.val, strV y.row.note, .int .i64 y.by']⟩) _ := inferInstance
 refine ⟨fun d w hd => ?_⟩
 rw [h.out d w hd]
 congr 1
 obtain ⟨k, ⟨t, i, v, n⟩, b⟩ := x
 obtain ⟨k', ⟨t', i', v', n'⟩, b'⟩ := y
 simp only [Stp.mk.injEq, Row.mk.injEq, Bool.and_true, Bool.decide_and]
 have e : ∀ i i' : Nat, ((i : Int) == (i' : Int)) = decide (i = i') := fun i i' => by
  by_cases h : i = i'
  ·subst h; simp
  ·rw [decide_eq_false h]; simp only [beq_eq_false_iff_ne, ne_eq]; omega
 rw [e]
 have e2 : ∀ i i' : Int, (i == i') = decide (i = i') := fun i i' => by
  by_cases h : i = i' <;> simp [h]
 rw [e2, e2, e2, e2]
 simp only [Bool.and_assoc]
theorem cmpU64_spec (ρ : Hp) (x y : Nat) : Spec Tryz.prog 80 [.int .u64 x, .int .u64 y] ρ [] (fun v ρ' L' => v = .int .i64 (cmpI x y) ∧ ρ' = ρ ∧ L' = []) := by
 refine Zg Tryz.func80 rfl rfl rfl fun u R => ?_
 simp only [Zx, List.cons_append, List.nil_append]
 unfold cmpI
 split
 ·repeat' (first | (refine Ze (.func 134) ?_; refine qC rfl rfl (nanU64_spec _ _) ?_; rintro v ρ' L' hle ⟨rfl, rfl, rfl⟩ <;> (try simp only [kM, kN, kO])) | (refine ZE ?_; refine Zn (Zd rfl) rfl rfl ?_) | (refine Zj ?_; first | (refine Zf ?_; refine qQ ?_) | refine Zm ?_) | refine Za ?_ | (refine Zi ?_; refine Zt ?_) | (refine Zh ?_; refine Zs ?_) | intro _)
  exact qE ⟨rfl, rfl, rfl⟩
 ·split
  ·repeat' (first | (refine Ze (.func 134) ?_; refine qC rfl rfl (nanU64_spec _ _) ?_; rintro v ρ' L' hle ⟨rfl, rfl, rfl⟩ <;> (try simp only [kM, kN, kO])) | (refine ZE ?_; refine Zn (Zd rfl) rfl rfl ?_) | (refine Zj ?_; first | (refine Zf ?_; refine qQ ?_) | refine Zm ?_) | refine Za ?_ | (refine Zi ?_; refine Zt ?_) | (refine Zh ?_; refine Zs ?_) | intro _)
   exact qE ⟨rfl, rfl, rfl⟩
  ·repeat' (first | (refine Ze (.func 134) ?_; refine qC rfl rfl (nanU64_spec _ _) ?_; rintro v ρ' L' hle ⟨rfl, rfl, rfl⟩ <;> (try simp only [kM, kN, kO])) | (refine ZE ?_; refine Zn (Zd rfl) rfl rfl ?_) | (refine Zj ?_; first | (refine Zf ?_; refine qQ ?_) | refine Zm ?_) | refine Za ?_ | (refine Zi ?_; refine Zt ?_) | (refine Zh ?_; refine Zs ?_) | intro _)
   exact qE ⟨rfl, rfl, rfl⟩
theorem least1_spec (ρ : Hp) (x y : Tx) : Spec Tryz.prog 79 [.agg ⟨txV x⟩, .agg ⟨txV y⟩] ρ [] (fun v ρ' L' => v = .int .i64 (cmpI x.first y.first) ∧ ρ' = ρ ∧ L' = []) := by
 refine Zg Tryz.func79 rfl rfl rfl fun u R => ?_
 simp only [Zx, List.cons_append, List.nil_append]
 repeat' (first | (refine Ze (.func 80) ?_; refine qC rfl rfl (cmpU64_spec _ _ _) ?_; rintro v ρ' L' hle ⟨rfl, rfl, rfl⟩ <;> (try simp only [kM, kN, kO])) | (refine ZE ?_; refine Zn (Zd rfl) rfl rfl ?_) | (refine Zj ?_; first | (refine Zf ?_; refine qQ ?_) | refine Zm ?_) | refine Za ?_ | (refine Zi ?_; refine Zt ?_) | (refine Zh ?_; refine Zs ?_) | intro _)
 exact qE ⟨rfl, rfl, rfl⟩
theorem minTx_spec (ρ : Hp) (s : SV) (l : List Tx) (h : AS ρ 7 txV s l) (h0 : 0 < l.length) :
  Spec Tryz.prog 78 [.slice s.a s.n s.c, .func (.func 79) ⟨[]⟩ ⟨[]⟩] ρ [] (fun z ρ' L' => ρ' = ρ ∧ ∃ y, z = .agg ⟨txV y⟩ ∧ y ∈ l ∧ (∀ x ∈ l, y.first ≤ x.first) ∧ L' = []) := by
 have hl := h.at'.len
 have hn := h.big
 have hA := h.at'
 obtain ⟨b, off, C, T, fr, f1, hb, hfit, hc⟩ := hA.get h0
 have hm0 := List.getElem_mem h0
 have hle0 : ∀ x ∈ l.take 1, (l[0]'h0).first ≤ x.first := fun x hx => by
  rw [List.take_succ_eq_append_getElem h0] at hx
  simp at hx; rw [hx]; exact Nat.le_refl _
 generalize l[0]'h0 = y0 at *
 refine Zg Tryz.func78 rfl rfl rfl fun u R => ?_
 simp only [Zx, List.cons_append, List.nil_append]
 rw [f1]
 repeat' (first | (refine ZE ?_; refine Zn (Zd rfl) rfl rfl ?_) | (refine Zj ?_; first | (refine Zf ?_; refine qQ ?_) | refine Zm ?_) | refine Za ?_ | (refine Zi ?_; refine Zt ?_) | (refine Zh ?_; refine Zs ?_) | intro _)
 refine ZG [(0, _), (1, _), (4, _), (5, _)] (fun (ζ : (Nat) × (Tx)) => [(6, .int .i64 ζ.1)]) (fun (ζ : (Nat) × (Tx)) => ρ) (fun (ζ : (Nat) × (Tx)) => [[(_, .cells ⟨txV ζ.2⟩ 45 (0, 0))]]) (fun (ζ : (Nat) × (Tx)) => ζ.1 ≤ s.n ∧ 1 ≤ ζ.1 ∧ ζ.2 ∈ l ∧ ∀ x ∈ l.take ζ.1, ζ.2.first ≤ x.first) (fun (ζ : (Nat) × (Tx)) => s.n - ζ.1) ((1, y0)) (⟨by dsimp only; omega, Nat.le_refl _, hm0, hle0⟩) Zo Zo rfl tk ?_
 rintro ⟨k, y⟩ hI
 try simp only [List.cons_append, List.nil_append, List.append_assoc, List.append_eq] at hI ⊢
 try dsimp only at hI ⊢
 obtain ⟨hk, hk1, hy, hmin⟩ := hI
 by_cases hlt : k < s.n
 ·obtain ⟨b2, off2, C2, T2, fr2, f2, hb2, hfit2, hc2⟩ := hA.get (show k < l.length by omega)
  have ht := List.take_succ_eq_append_getElem (show k < l.length by omega)
  have hmx := List.getElem_mem (show k < l.length by omega)
  generalize l[k]'(by omega) = x at *
  rw [f1] at f2
  cases f2
  rw [hb] at hb2
  cases hb2
  by_cases hxy : x.first < y.first
  ·have hcm : cmpI (x.first : Int) y.first < 0 := by unfold cmpI; rw [if_pos (by omega)]; omega
   have hmin2 : ∀ z ∈ l.take (k + 1), x.first ≤ z.first := fun z hz => by
    rw [ht] at hz
    rcases List.mem_append.1 hz with hz | hz
    ·have := hmin z hz; omega
    ·rw [List.mem_singleton.1 hz]; exact Nat.le_refl _
   repeat' (first | (refine ZE ?_; refine Zn (Zd rfl) rfl rfl ?_) | (refine Zj ?_; first | (refine Zf ?_; refine qQ ?_) | refine Zm ?_) | refine Za ?_ | (refine Zi ?_; refine Zt ?_) | (refine Zh ?_; refine Zs ?_) | intro _)
   refine ZC (Zq _ _ _) ZF ?_
   all_goals (refine ZU 0 ?_; refine ZU 1 ?_; refine ZU 2 ?_; refine rIa 3 ?_; refine Yf 4 ?_; refine Yf 5 ?_)
   all_goals (refine Zp (i := 6) ?_; ((try refine Zk ?_); (first | (refine Ze (.tmp 20) ?_; refine qC rfl rfl (least1_spec _ _ _) ?_; rintro v ρ' L' hle ⟨rfl, rfl, rfl⟩ <;> (try simp only [kM, kN, kO])) | (refine Zm ?_; try intro _)) <;> ((try simp only [kM, kN, kO]); refine Za ?_; refine Zl ?_)))
   all_goals (refine ZS ?_; refine rCm 7 ?_; refine ZH ?_)
   all_goals (repeat' (first | (refine ZE ?_; refine Zn (Zd rfl) rfl rfl ?_) | (refine Zj ?_; first | (refine Zf ?_; refine qQ ?_) | refine Zm ?_) | refine Za ?_ | (refine Zi ?_; refine Zt ?_) | (refine Zh ?_; refine Zs ?_) | intro _))
   all_goals refine Zr (k + 1, x) (⟨hlt, by dsimp only; omega, hmx, hmin2⟩) Zo Zo rfl tk inferInstance (by first | omega | (dsimp only; omega))
  ·have hcm : ¬ cmpI (x.first : Int) y.first < 0 := by unfold cmpI; rw [if_neg (by omega)]; split <;> omega
   have hmin2 : ∀ z ∈ l.take (k + 1), y.first ≤ z.first := fun z hz => by
    rw [ht] at hz
    rcases List.mem_append.1 hz with hz | hz
    ·exact hmin z hz
    ·rw [List.mem_singleton.1 hz]; omega
   repeat' (first | (refine ZE ?_; refine Zn (Zd rfl) rfl rfl ?_) | (refine Zj ?_; first | (refine Zf ?_; refine qQ ?_) | refine Zm ?_) | refine Za ?_ | (refine Zi ?_; refine Zt ?_) | (refine Zh ?_; refine Zs ?_) | intro _)
   refine ZC (Zq _ _ _) ZF ?_
   all_goals (refine ZU 0 ?_; refine ZU 1 ?_; refine ZU 2 ?_; refine rIa 3 ?_; refine Yf 4 ?_; refine Yf 5 ?_)
   all_goals (refine Zp (i := 6) ?_; ((try refine Zk ?_); (first | (refine Ze (.tmp 20) ?_; refine qC rfl rfl (least1_spec _ _ _) ?_; rintro v ρ' L' hle ⟨rfl, rfl, rfl⟩ <;> (try simp only [kM, kN, kO])) | (refine Zm ?_; try intro _)) <;> ((try simp only [kM, kN, kO]); refine Za ?_; refine Zl ?_)))
   all_goals (refine ZS ?_; refine rCm 7 ?_; refine ZH ?_)
   all_goals (repeat' (first | (refine ZE ?_; refine Zn (Zd rfl) rfl rfl ?_) | (refine Zj ?_; first | (refine Zf ?_; refine qQ ?_) | refine Zm ?_) | refine Za ?_ | (refine Zi ?_; refine Zt ?_) | (refine Zh ?_; refine Zs ?_) | intro _))
   all_goals refine Zr (k + 1, y) (⟨hlt, by dsimp only; omega, hy, hmin2⟩) Zo Zo rfl tk inferInstance (by first | omega | (dsimp only; omega))
 ·have hk2 : k = l.length := by omega
  rw [hk2, List.take_length] at hmin
  repeat' (first | (refine ZE ?_; refine Zn (Zd rfl) rfl rfl ?_) | (refine Zj ?_; first | (refine Zf ?_; refine qQ ?_) | refine Zm ?_) | refine Za ?_ | (refine Zi ?_; refine Zt ?_) | (refine Zh ?_; refine Zs ?_) | intro _)
  exact qE (L' := []) ⟨rfl, y, rfl, hy, hmin, rfl⟩
theorem leastF_le : ∀ {l : List TxP} {n : Nat}, n ≠ 0 → (∀ t ∈ l, n ≤ t.first) → leastF n l = n
 | [], _, _, _ => rfl
 | t :: r, n, h0, h => by
  have h1 := h t (by simp)
  rw [leastF, if_neg (by omega)]
  exact leastF_le h0 (fun x hx => h x (by simp [hx]))
theorem leastF_min : ∀ {l : List TxP} {y : TxP} {n : Nat}, y ∈ l → 1 ≤ y.first → (∀ t ∈ l, y.first ≤ t.first) → (n = 0 ∨ y.first ≤ n) → leastF n l = y.first
 | t :: r, y, n, hm, h1, h, hn => by
  have ht := h t (by simp)
  rw [leastF]
  by_cases hy : y ∈ r
  ·refine leastF_min hy h1 (fun x hx => h x (by simp [hx])) ?_
   split <;> omega
  ·have e : y = t := by rcases List.mem_cons.1 hm with e | e; exact e; exact absurd e hy
   subst e
   have : (if n = 0 ∨ y.first < n then y.first else n) = y.first := by split <;> omega
   rw [this]
   exact leastF_le (by omega) (fun x hx => h x (by simp [hx]))
theorem rleast_spec (ρ : Hp) (v : SV) (r : Ros) (h : RosIn ρ v r) : Spec Tryz.prog 39 [.agg ⟨Yx v r⟩] ρ [] (fun z ρ' L' => z = .int .u64 (if XY r then leastP r.p else 0 : Nat) ∧ ρ' = ρ ∧ L' = []) := by
 have hl := h.at'.at'.len
 have hck := XN ρ v r h
 refine Zg Tryz.func39 rfl rfl rfl fun u R => ?_
 simp only [Zx, List.cons_append, List.nil_append]
 cases hok : XY r
 ·rw [hok] at hck
  simp only [Bool.false_eq_true, if_false] at hck ⊢
  repeat' (first | (refine Ze (.func 55) ?_; refine qC rfl rfl (hck) ?_; rintro v ρ' L' hle ⟨rfl, rfl, rfl⟩ <;> (try simp only [kM, kN, kO])) | (refine ZE ?_; refine Zn (Zd rfl) rfl rfl ?_) | (refine Zj ?_; first | (refine Zf ?_; refine qQ ?_) | refine Zm ?_) | refine Za ?_ | (refine Zi ?_; refine Zt ?_) | (refine Zh ?_; refine Zs ?_) | intro _)
  exact qE (L' := []) ⟨rfl, rfl, rfl⟩
 ·have hG : RosG r.p := Yw.1 (by rw [XA]; exact hok)
  rw [hok] at hck
  simp only [if_true] at hck ⊢
  by_cases h0 : v.n = 0
  ·have : r.txns = [] := List.eq_nil_of_length_eq_zero (by omega)
   have e : leastP r.p = 0 := by unfold leastP; simp [Ros.p, this, leastF]
   rw [e]
   repeat' (first | (refine Ze (.func 55) ?_; refine qC rfl rfl (hck) ?_; rintro v ρ' L' hle ⟨rfl, rfl, rfl⟩ <;> (try simp only [kM, kN, kO])) | (refine ZE ?_; refine Zn (Zd rfl) rfl rfl ?_) | (refine Zj ?_; first | (refine Zf ?_; refine qQ ?_) | refine Zm ?_) | refine Za ?_ | (refine Zi ?_; refine Zt ?_) | (refine Zh ?_; refine Zs ?_) | intro _)
   exact qE (L' := []) ⟨rfl, rfl, rfl⟩
  ·have hm := minTx_spec ρ v r.txns h.at' (by omega)
   repeat' (first | (refine Ze (.func 55) ?_; refine qC rfl rfl (hck) ?_; rintro v ρ' L' hle ⟨rfl, rfl, rfl⟩ <;> (try simp only [kM, kN, kO])) | (refine Ze (.func 78) ?_; refine qC rfl rfl (hm) ?_; rintro v ρ' L' hle ⟨rfl, y, rfl, hy, hmin, rfl⟩ <;> (try simp only [kM, kN, kO])) | (refine ZE ?_; refine Zn (Zd rfl) rfl rfl ?_) | (refine Zj ?_; first | (refine Zf ?_; refine qQ ?_) | refine Zm ?_) | refine Za ?_ | (refine Zi ?_; refine Zt ?_) | (refine Zh ?_; refine Zs ?_) | intro _)
   have e : leastP r.p = y.first := by
    have hy2 : y.p ∈ r.p.txns := List.mem_map.2 ⟨y, hy, rfl⟩
    refine leastF_min (y := y.p) hy2 ((hG.tx _ hy2).2.2.f1) (fun t ht => ?_) (.inl rfl)
    obtain ⟨x, hx, rfl⟩ := List.mem_map.1 ht
    exact hmin x hx
   rw [e]
   exact qE (L' := []) ⟨rfl, rfl, rfl⟩
def zX : Tx := ⟨0, 0, 0, 0, 0, [], [], ⟨none, 0, 0⟩, ⟨none, 0, 0⟩⟩
theorem zX_in (ρ : Hp) : Tx.In ρ zX := ⟨AIn.nil, SIn.nil, Nat.zero_le _, Nat.zero_le _, Nat.le_refl _, Nat.le_refl _⟩
def FindR (o : Option TxP) (x : Tx) (b : Bool) : Prop := (∃ t, o = some t ∧ b = true ∧ x.p = t) ∨ (o = none ∧ b = false ∧ x = zX)
theorem rfind_spec (ρ : Hp) (v : SV) (ro : Ros) (h : RosIn ρ v ro) (num : Int) : Spec Tryz.prog 19 [.agg ⟨Yx v ro⟩, .int .i64 num] ρ []
  (fun z ρ' L' => ρ' = ρ ∧ ∃ x b, z = .tuple ⟨[.agg ⟨txV x⟩, .bool b]⟩ ∧ Tx.In ρ' x ∧ FindR (if XY ro then Yq ro.p num else none) x b ∧ L' = []) := by
 have hck := XN ρ v ro h
 have hat := atT_spec ρ ro.next v ro.txns h.at' num
 have hl := h.at'.at'.len
 have hA := h.at'.at'
 refine Zg Tryz.func19 rfl rfl rfl fun u R => ?_
 simp only [Zx, List.cons_append, List.nil_append]
 repeat' (first | (refine Ze (.func 54) ?_; refine qC rfl rfl (hat) ?_; rintro v ρ' L' hle ⟨rfl, i, there, rfl, hAt, rfl⟩ <;> (try simp only [kM, kN, kO])) | (refine ZE ?_; refine Zn (Zd rfl) rfl rfl ?_) | (refine Zj ?_; first | (refine Zf ?_; refine qQ ?_) | refine Zm ?_) | refine Za ?_ | (refine Zi ?_; refine Zt ?_) | (refine Zh ?_; refine Zs ?_) | intro _)
 cases hok : XY ro
 ·rw [hok] at hck
  simp only [Bool.false_eq_true, if_false] at hck ⊢
  cases there
  all_goals (repeat' (first | (refine Ze (.func 55) ?_; refine qC rfl rfl (hck) ?_; rintro v ρ' L' hle ⟨rfl, rfl, rfl⟩ <;> (try simp only [kM, kN, kO])) | (refine ZE ?_; refine Zn (Zd rfl) rfl rfl ?_) | (refine Zj ?_; first | (refine Zf ?_; refine qQ ?_) | refine Zm ?_) | refine Za ?_ | (refine Zi ?_; refine Zt ?_) | (refine Zh ?_; refine Zs ?_) | intro _))
  all_goals exact qE (L' := []) ⟨rfl, zX, false, rfl, zX_in _, .inr ⟨rfl, rfl, rfl⟩, rfl⟩
 ·have hG : RosG ro.p := Yw.1 (by rw [XA]; exact hok)
  rw [hok] at hck
  simp only [if_true] at hck ⊢
  have hfa := find_at (next := ro.next) (txns := ro.p.txns) (os := ro.txns.map (fun x => ⟨x, [], []⟩)) (num := num) (i := i) (there := there) (by rw [List.map_map]; have : (OT.x ∘ fun x => (⟨x, [], []⟩ : OT)) = id := rfl; rw [this, List.map_id]; exact hAt) (by rw [List.map_map]; rfl) hG
  cases there
  ·have hf : Yq ro.p num = none := hfa.2 rfl
   rw [hf]
   repeat' (first | (refine ZE ?_; refine Zn (Zd rfl) rfl rfl ?_) | (refine Zj ?_; first | (refine Zf ?_; refine qQ ?_) | refine Zm ?_) | refine Za ?_ | (refine Zi ?_; refine Zt ?_) | (refine Zh ?_; refine Zs ?_) | intro _)
   exact qE (L' := []) ⟨rfl, zX, false, rfl, zX_in _, .inr ⟨rfl, rfl, rfl⟩, rfl⟩
  ·obtain ⟨hi, hnum, hf⟩ := hfa.1 rfl
   rw [List.length_map] at hi
   have hf : Yq ro.p num = some (ro.txns[i]).p := by
    have : Yq ro.p num = _ := hf
    rw [this]; simp
   rw [hf]
   obtain ⟨b, off, C, T, fr, e1, hb, hfit, hc⟩ := hA.get hi
   have hin := h.tx _ (List.getElem_mem hi)
   generalize ro.txns[i] = x at *
   have hrv : Yx v ro = [.int .i64 ro.next, .slice (some ⟨b, off, none⟩) v.n v.c] := by rw [← e1]
   rw [hrv] at hck ⊢
   repeat' (first | (refine Ze (.func 55) ?_; refine qC rfl rfl (hck) ?_; rintro v ρ' L' hle ⟨rfl, rfl, rfl⟩ <;> (try simp only [kM, kN, kO])) | (refine ZE ?_; refine Zn (Zd rfl) rfl rfl ?_) | (refine Zj ?_; first | (refine Zf ?_; refine qQ ?_) | refine Zm ?_) | refine Za ?_ | (refine Zi ?_; refine Zt ?_) | (refine Zh ?_; refine Zs ?_) | intro _)
   exact qE (L' := []) ⟨rfl, x, true, rfl, hin, .inl ⟨_, rfl, rfl, rfl⟩, rfl⟩
theorem putT_len (p : Yh) (t : TxP) : (XP p t).txns.length = p.txns.length := by simp [XP]
theorem asks_ok {f : TxP → Int} {g : TxP → TxP} {p : Yh} {num : Int} (hg : ∀ t, (g t).num = t.num) (hgk : ∀ t, TxG t → t.state = 1 → f t = 0 → TxG (g t)) (he : Xo f p num = 0) : RosG (asksP f g p num) := by
 unfold asksP
 rw [if_pos he]
 unfold Xo at he
 cases h1 : Xq p
 ·rw [h1] at he; simp at he
 ·have hG := Yw.1 h1
  rw [h1] at he
  simp only [if_true] at he
  cases hf : Yq p num with
  | none => rw [hf] at he; cases he
  | some t =>
   rw [hf] at he
   unfold askE at he
   dsimp only at he
   split at he
   ·rename_i hs
    obtain ⟨hm, hn⟩ := findT_mem hf
    obtain ⟨i, hi, rfl⟩ := List.mem_iff_getElem.1 hm
    show RosG (XP p (g p.txns[i]))
    rw [putT_set hG hi (hg _)]
    exact hG.set hi (hg _) (hgk _ (hG.tx _ hm).2.2 hs he)
   ·cases he
theorem markG_ok {t : TxP} (h : TxG t) (hs : t.state = 1) (hf : markF t = 0) : TxG (Xk t) := by
 unfold markF at hf
 have h8 : t.marks.length < 8 := by
  by_cases h8 : 8 ≤ t.marks.length
  ·rw [if_pos h8] at hf; cases hf
  ·omega
 have hfu := h.fu
 refine ⟨h.s1, h.s3, h.f1, h.fu, h.ul, h.lm, h.st, h.so, ?_, fun _ => hs, fun m hm => ?_, ?_⟩
 ·show (t.marks ++ [t.undo]).length ≤ 8
  rw [List.length_append, List.length_singleton]; omega
 ·rcases List.mem_append.1 hm with hm | hm
  ·exact h.mb m hm
  ·rw [List.mem_singleton] at hm
   subst hm
   exact ⟨hfu, Nat.le_refl _⟩
 ·show (t.marks ++ [t.undo]).Pairwise (· ≤ ·)
  refine List.pairwise_append.2 ⟨h.mo, by simp, fun a ha b hb => ?_⟩
  rw [List.mem_singleton] at hb
  subst hb
  exact (h.mb a ha).2
theorem cutG_ok {t : TxP} (h : TxG t) (hs : t.state = 1) (n : Int) : TxG (cutG n t) := by
 refine ⟨h.s1, h.s3, h.f1, h.fu, h.ul, h.lm, h.st, h.so, ?_, fun _ => hs, fun m hm => h.mb m (List.mem_of_mem_take hm), h.mo.sublist (List.take_sublist _ _)⟩
 show (t.marks.take n.toNat).length ≤ 8
 have := h.ml
 rw [List.length_take]; omega
theorem markZ_spec (ρ : Hp) (v : SV) (ro : Ros) (h : RosIn ρ v ro) (num : Int) : Spec Tryz.prog 13 [.agg ⟨Yx v ro⟩, .int .i64 num] ρ []
  (fun z ρ' L' => (ρ.le ρ' ∧ ∃ (v' : SV) (ro' : Ros), z = .tuple ⟨[.agg ⟨Yx v' ro'⟩, .int .i64 (markK ro.p num), .int .i64 (markE ro.p num)]⟩ ∧ RosIn ρ' v' ro' ∧ ro'.p = ZT ro.p num) ∧ L' = []) := by
 refine Spec.freeze (Post2 := fun z ρ' => ρ.le ρ' ∧ ∃ (v' : SV) (ro' : Ros), z = .tuple ⟨[.agg ⟨Yx v' ro'⟩, .int .i64 (markK ro.p num), .int .i64 (markE ro.p num)]⟩ ∧ RosIn ρ' v' ro' ∧ ro'.p = ZT ro.p num) (mark_spec ρ v ro h num) ?_
 rintro z ρ' L' _ ⟨hl1, ⟨he, rfl, rfl⟩ | ⟨he, vv, sp, os, hR, rfl, rfl⟩⟩ ρ2 hl2 hf
 ·have e1 : markK ro.p num = 0 := by unfold markK; rw [if_neg he]
  refine ⟨Hp.le_trans hl1 hl2, YI, ⟨0, []⟩, by rw [e1], RosIn.z, ?_⟩
  unfold ZT asksP
  exact (if_neg (show ¬ Xo markF ro.p num = 0 from he)).symm
 ·have e1 : markK ro.p num = marksN ro.p num := by unfold markK; rw [if_pos he]
  obtain ⟨v', ro', e2, e3, e4⟩ := own_frozen (next := (ZT ro.p num).next) hR (asks_ok (fun _ => rfl) (fun t h1 h2 h3 => markG_ok h1 h2 h3) he) rfl hf
  exact ⟨Hp.le_trans hl1 hl2, v', ro', by rw [e2, he, e1], e3, e4⟩
theorem rnew_spec (ρ : Hp) : Spec Tryz.prog 10 [] ρ [] (fun z ρ' L' => z = .agg ⟨Yx YI ⟨1, []⟩⟩ ∧ ρ' = ρ ∧ L' = []) := by
 refine Zg Tryz.func10 rfl rfl rfl fun u R => ?_
 simp only [Zx, List.cons_append, List.nil_append]
 repeat' (first | (refine ZE ?_; refine Zn (Zd rfl) rfl rfl ?_) | (refine Zj ?_; first | (refine Zf ?_; refine qQ ?_) | refine Zm ?_) | refine Za ?_ | (refine Zi ?_; refine Zt ?_) | (refine Zh ?_; refine Zs ?_) | intro _)
 exact qE (L' := []) ⟨rfl, rfl, rfl⟩
theorem rnew_in (ρ : Hp) : RosIn ρ YI ⟨1, []⟩ := ⟨AS.nil, by simp⟩
theorem takeW (ρ : Hp) (v : SV) (ro : Ros) (h : RosIn ρ v ro) (rv : RV) (r : Rc) (hr : RcIn ρ rv r) {p p' : Yh} (hp : ro.p = p) (he : Xa p r = 0) (hP : YD p r = p') : Spec Tryz.prog 18 [.agg ⟨Yx v ro⟩, .agg ⟨recV rv r⟩] ρ []
  (fun z ρ' L' => ρ.le ρ' ∧ ∃ (v' : SV) (ro' : Ros), z = .tuple ⟨[.agg ⟨Yx v' ro'⟩, .int .i64 0]⟩ ∧ RosIn ρ' v' ro' ∧ ro'.p = p' ∧ L' = []) := by
 refine (takeF_spec ρ v ro h rv r hr).mono ?_
 rintro z ρ' L' _ ⟨⟨h1, v', ro', h2, h3, h4⟩, h5⟩
 rw [hp, he] at h2
 rw [hp, hP] at h4
 exact ⟨h1, v', ro', h2, h3, h4, h5⟩
theorem markW (ρ : Hp) (v : SV) (ro : Ros) (h : RosIn ρ v ro) (num : Int) {p p' : Yh} {k : Int} (hp : ro.p = p) (he : markE p num = 0) (hk : markK p num = k) (hP : ZT p num = p') : Spec Tryz.prog 13 [.agg ⟨Yx v ro⟩, .int .i64 num] ρ []
  (fun z ρ' L' => ρ.le ρ' ∧ ∃ (v' : SV) (ro' : Ros), z = .tuple ⟨[.agg ⟨Yx v' ro'⟩, .int .i64 k, .int .i64 0]⟩ ∧ RosIn ρ' v' ro' ∧ ro'.p = p' ∧ L' = []) := by
 refine (markZ_spec ρ v ro h num).mono ?_
 rintro z ρ' L' _ ⟨⟨h1, v', ro', h2, h3, h4⟩, h5⟩
 rw [hp, he, hk] at h2
 rw [hp, hP] at h4
 exact ⟨h1, v', ro', h2, h3, h4, h5⟩
def wq1 : Rc := ⟨1, 1, 1, 0, 0, [], [], 0, [], []⟩
def wq2 : Rc := ⟨2, 2, 1, 1, 0, [⟨1, nilCV, ztC, nilCV, ztC⟩], [], 0, [], []⟩
def wq3 : Rc := ⟨4, 3, 1, 2, 1, [], [⟨1, ⟨0, 0, 0, []⟩, 1⟩], 0, [], []⟩
def wp1 : Yh := ⟨2, [⟨1, 1, 1, 1, 1, [], []⟩]⟩
def wp2 : Yh := ⟨2, [⟨1, 1, 1, 1, 1, [], [1]⟩]⟩
def wp3 : Yh := ⟨2, [⟨1, 1, 1, 2, 2, [⟨2, 1⟩], [1]⟩]⟩
def wp4 : Yh := ⟨2, [⟨1, 1, 1, 3, 3, [⟨3, 3⟩], [1]⟩]⟩
theorem wqA : Xa ⟨1, []⟩ wq1 = 0 ∧ YD ⟨1, []⟩ wq1 = wp1 := by decide +kernel
theorem wqB : markE wp1 1 = 0 ∧ markK wp1 1 = 1 ∧ ZT wp1 1 = wp2 := by decide +kernel
theorem wqC : Xa wp2 wq2 = 0 ∧ YD wp2 wq2 = wp3 := by decide +kernel
theorem wqD : Xa wp3 wq3 = 0 ∧ YD wp3 wq3 = wp4 := by decide +kernel
theorem wqE : whereE wp4 1 1 = 0 ∧ whereV wp4 1 1 = 1 ∧ Xq wp4 = true ∧ resN wp4 = 5 ∧ leastP wp4 = 1 := by decide +kernel
theorem wakes18_spec (ρ : Hp) : Spec Tryz.prog 9 [] ρ [] (fun v ρ' L' => v = .bool true ∧ ρ.le ρ' ∧ L' = []) := by
 have hρ := Hp.le_refl ρ
 have hT1 := takeW ρ YI ⟨1, []⟩ (rnew_in ρ) noRV wq1 ⟨AS.nil, by simp [wq1], AS.nil, AS.nil, AS.nil, by simp [wq1]⟩ rfl wqA.1 wqA.2
 refine Zg Tryz.func9 rfl rfl rfl fun u R => ?_
 simp only [Zx, List.cons_append, List.nil_append]
 repeat' (first | (refine Ze (.func 10) ?_; refine qC rfl rfl (rnew_spec _) ?_; rintro v ρ' L' hle ⟨rfl, rfl, rfl⟩ <;> (try simp only [kM, kN, kO])) | (refine Ze (.func 18) ?_; refine qC rfl rfl (hT1) ?_; rintro v ρ' L' hle ⟨hl1, v1, ro1, rfl, hR1, hp1, rfl⟩ <;> (try simp only [kM, kN, kO])) | (refine Ze (.func 13) ?_; refine qC rfl rfl (markW _ v1 ro1 hR1 1 hp1 wqB.1 wqB.2.1 wqB.2.2) ?_; rintro v ρ' L' hle ⟨hl2, v2, ro2, rfl, hR2, hp2, rfl⟩ <;> (try simp only [kM, kN, kO])) | (refine Yu (css := [imV ⟨1, nilCV, ztC, nilCV, ztC⟩]) (sz := 7) rfl rfl rfl rfl (by simp) (by simp) rfl (fun bs => ?_); simp only [List.flatten_cons, List.flatten_nil, List.append_nil]; refine Yi _ (h := Rem.here) (fun ρz hlz hfz => ?_); have hbs := hfz _ (List.mem_singleton.2 rfl); clear hfz; (try simp only [List.nil_append]); have hT2 := takeW ρz v2 ro2 (hR2.mono hlz) ⟨⟨some ⟨bs, 0, none⟩, 1, 1⟩, ⟨none, 0, 0⟩, ⟨none, 0, 0⟩, ⟨none, 0, 0⟩⟩ wq2 ⟨⟨⟨rfl, .inr ⟨bs, 0, _, _, _, rfl, hbs, Nat.le_refl _, rfl⟩, by simp⟩, by dsimp only; omega, by dsimp only; omega⟩, fun x hx => by (rw [List.mem_singleton.1 hx]; exact ⟨CI.nil, CI.nil⟩), AS.nil, AS.nil, AS.nil, by simp [wq2]⟩ hp2 wqC.1 wqC.2) | (refine Ze (.func 18) ?_; refine qC rfl rfl (hT2) ?_; rintro v ρ' L' hle ⟨hl3, v3, ro3, rfl, hR3, hp3, rfl⟩ <;> (try simp only [kM, kN, kO])) | (refine Yu (css := [stpV ⟨1, ⟨0, 0, 0, []⟩, 1⟩]) (sz := 6) rfl rfl rfl rfl (by simp) (by simp) rfl (fun bs2 => ?_); simp only [List.flatten_cons, List.flatten_nil, List.append_nil]; refine Yi _ (h := Rem.here) (fun ρy hly hfy => ?_); have hbs2 := hfy _ (List.mem_singleton.2 rfl); clear hfy; (try simp only [List.nil_append]); have hT3 := takeW ρy v3 ro3 (hR3.mono hly) ⟨⟨none, 0, 0⟩, ⟨some ⟨bs2, 0, none⟩, 1, 1⟩, ⟨none, 0, 0⟩, ⟨none, 0, 0⟩⟩ wq3 ⟨AS.nil, by simp [wq3], ⟨⟨rfl, .inr ⟨bs2, 0, _, _, _, rfl, hbs2, Nat.le_refl _, rfl⟩, by simp⟩, by dsimp only; omega, by dsimp only; omega⟩, AS.nil, AS.nil, fun s hs => by (rw [List.mem_singleton.1 hs]; exact ⟨by decide, by decide, by decide⟩)⟩ hp3 wqD.1 wqD.2) | (refine Ze (.func 18) ?_; refine qC rfl rfl (hT3) ?_; rintro v ρ' L' hle ⟨hl4, v4, ro4, rfl, hR4, hp4, rfl⟩ <;> (try simp only [kM, kN, kO])) | (refine ZE ?_; refine Zn (Zd rfl) rfl rfl ?_) | (refine Zj ?_; first | (refine Zf ?_; refine qQ ?_) | refine Zm ?_) | refine Za ?_ | (refine Zi ?_; refine Zt ?_) | (refine Zh ?_; refine Zs ?_) | intro _)
 obtain ⟨z1, z2, z3, z4, z5⟩ := wqE
 have hok : XY ro4 = true := by rw [← XA, hp4]; exact z3
 have hnx : ro4.next = 2 := congrArg Yh.next hp4
 have hW := where_spec ρ' v4 ro4 hR4 1 1 ⟨by omega, by omega⟩
 rw [hp4, z1, z2] at hW
 simp only [if_true] at hW
 have hS := fun ρ2 (h : RosIn ρ2 v4 ro4) => reserved_spec ρ2 v4 ro4 h
 rw [hok, hp4, z4] at hS
 simp only [if_true] at hS
 have hL := fun ρ2 (h : RosIn ρ2 v4 ro4) => rleast_spec ρ2 v4 ro4 h
 rw [hok, hp4, z5] at hL
 simp only [if_true] at hL
 repeat' (first | (refine Ze (.func 14) ?_; refine qC rfl rfl (hW) ?_; rintro v ρ' L' hle ⟨hl5, rfl, rfl⟩ <;> (try simp only [kM, kN, kO])) | (refine Ze (.func 20) ?_; refine qC rfl rfl (hS _ (hR4.mono hl5)) ?_; rintro v ρ' L' hle ⟨hl6, rfl, rfl⟩ <;> (try simp only [kM, kN, kO])) | (refine Ze (.func 39) ?_; refine qC rfl rfl (hL _ ((hR4.mono hl5).mono hl6)) ?_; rintro v ρ' L' hle ⟨rfl, rfl, rfl⟩ <;> (try simp only [kM, kN, kO])) | (refine ZE ?_; refine Zn (Zd rfl) rfl rfl ?_) | (refine Zj ?_; first | (refine Zf ?_; refine qQ ?_) | refine Zm ?_) | refine Za ?_ | (refine Zi ?_; refine Zt ?_) | (refine Zh ?_; refine Zs ?_) | intro _)
 exact qE (L' := []) ⟨rfl, Hp.le_trans hl1 (Hp.le_trans hl2 (Hp.le_trans hlz (Hp.le_trans hl3 (Hp.le_trans hly (Hp.le_trans hl4 (Hp.le_trans hl5 hl6)))))), rfl⟩ (hle := Hp.le_trans hl1 (Hp.le_trans hl2 (Hp.le_trans hlz (Hp.le_trans hl3 (Hp.le_trans hly (Hp.le_trans hl4 (Hp.le_trans hl5 hl6)))))))
end Go.Proofs.E
