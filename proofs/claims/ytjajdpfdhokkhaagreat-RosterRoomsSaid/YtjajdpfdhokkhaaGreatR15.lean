/- Rosters as data, and what their functions come to. Part 15 of 16. -/
import Derived.Test.YtjajdpfdhokkhaaGreatR14
namespace Go.Proofs.E
open Go
set_option linter.unusedVariables false
set_option linter.unusedSimpArgs false
set_option linter.unusedSectionVars false
set_option maxRecDepth 4000
set_option maxHeartbeats 1000000
attribute [local irreducible] Yl TL TC TE Spec YSpec R1 Hp.le EnvLe TS TR YS Stays
-- BN
theorem recC_in (rb : Nat) (v : RV) (r : Rc) : recC rb v r = [(rb, .cells ⟨recV v r⟩ 30 (0, 0))] := rfl
theorem take1_spec (ρ : Hp) (cb xb : Nat) (p : RosP) (vv : Value) (sp : List Value) (os : List OT) (hR : OwnR vv sp os p.txns) (hG : RosG p) (rv : RV) (r : Rc) (h : RcIn ρ rv r) :
    Spec Tryz.prog 140 [.pointer (some ⟨cb, 0, none⟩), .pointer (some ⟨xb, 0, none⟩)] ρ (clkC cb p.next vv noRV zeroRc none :: (ownRC vv sp os ++ [recC xb rv r]))
      (DoR (if recOk r then takesE p r else 220) (takesP p r).next (takesP p r).txns [recC xb rv r] cb ρ) := by
  have hck := rcheck_spec ρ rv r h
  unfold DoR
  refine spec_enter Tryz.func140 rfl rfl rfl fun u R => ?_
  simp only [argsE, List.cons_append, List.nil_append]
  cases hok : recOk r
  · rw [hok] at hck
    simp only [Bool.false_eq_true, if_false] at hck ⊢
    repeat' (first | (refine tl_is (.func 27) ?_; refine qC rfl rfl (hck) ?_; rintro v ρ' L' hle ⟨rfl, rfl, rfl⟩ <;> (try simp only [kM, kN, kO])) | (refine iBu ?_; refine tl_y (y_buildN rfl) rfl rfl ?_) | (refine i_op ?_; first | (refine i_qq ?_; refine qQ ?_) | refine qEf ?_) | refine tl_nil ?_ | (refine i_tc ?_; refine qTc ?_) | (refine i_te ?_; refine qTe ?_) | intro _)
    exact qE (L' := [] ++ [recC xb rv r]) ⟨Hp.le_refl _, rfl, .inl ⟨by decide, [], rfl⟩⟩
  · rw [hok] at hck
    simp only [if_true] at hck ⊢
    have ht := takes_spec ρ cb p.next vv sp os p.txns hR noRV zeroRc none rv r h hok hG
    unfold DoR at ht
    have hp : (⟨p.next, p.txns⟩ : RosP) = p := rfl
    rw [hp] at ht
    repeat' (first | (refine tl_is (.func 27) ?_; refine qC rfl rfl (hck) ?_; rintro v ρ' L' hle ⟨rfl, rfl, rfl⟩ <;> (try simp only [kM, kN, kO])) | (refine tl_is (.func 141) ?_; refine qC rfl rfl (ht) ?_; rintro v ρ' L' hle ⟨hl1, rfl, ⟨he, G, rfl⟩ | ⟨he, vv', sp', os', rv', x', tp', hR', rfl⟩⟩ <;> (try simp only [kM, kN, kO])) | (refine iBu ?_; refine tl_y (y_buildN rfl) rfl rfl ?_) | (refine i_op ?_; first | (refine i_qq ?_; refine qQ ?_) | refine qEf ?_) | refine tl_nil ?_ | (refine i_tc ?_; refine qTc ?_) | (refine i_te ?_; refine qTe ?_) | intro _)
    · simp only [List.append_nil, List.append_assoc]
      repeat' (first | (refine iBu ?_; refine tl_y (y_buildN rfl) rfl rfl ?_) | (refine i_op ?_; first | (refine i_qq ?_; refine qQ ?_) | refine qEf ?_) | refine tl_nil ?_ | (refine i_tc ?_; refine qTc ?_) | (refine i_te ?_; refine qTe ?_) | intro _)
      exact qE (L' := G ++ [recC xb rv r]) ⟨hl1, rfl, .inl ⟨he, G, rfl⟩⟩
    · repeat' (first | (refine iBu ?_; refine tl_y (y_buildN rfl) rfl rfl ?_) | (refine i_op ?_; first | (refine i_qq ?_; refine qQ ?_) | refine qEf ?_) | refine tl_nil ?_ | (refine i_tc ?_; refine qTc ?_) | (refine i_te ?_; refine qTe ?_) | intro _)
      exact qE (L' := clkC cb (takesP p r).next vv' rv' x' tp' :: (ownRC vv' sp' os' ++ [recC xb rv r])) ⟨hl1, rfl, .inr ⟨he, vv', sp', os', rv', x', tp', hR', rfl⟩⟩
/-- Take: an error, or a roster in memory of its own -/
theorem take_spec (ρ : Hp) (v : SV) (ro : Ros) (h : RosIn ρ v ro) (rv : RV) (r : Rc) (hr : RcIn ρ rv r) : Spec Tryz.prog 60 [.agg ⟨rosV v ro⟩, .agg ⟨recV rv r⟩] ρ []
    (fun z ρ' L' => ρ.le ρ' ∧ ((takeE ro.p r ≠ 0 ∧ z = .tuple ⟨[.agg ⟨[.int .i64 0, .slice none 0 0]⟩, .int .i64 (takeE ro.p r)]⟩ ∧ L' = []) ∨
      (takeE ro.p r = 0 ∧ ∃ vv sp os, OwnR vv sp os (takeP ro.p r).txns ∧ z = .tuple ⟨[.agg ⟨[.int .i64 (takeP ro.p r).next, vv]⟩, .int .i64 0]⟩ ∧ L' = ownRC vv sp os))) := by
  refine spec_enter Tryz.func60 rfl rfl rfl fun u R => ?_
  simp only [argsE, List.cons_append, List.nil_append]
  unfold takeP takeE
  rw [rosOk_p]
  cases hok : rosOk ro
  · have hw := fun cs X => rwith_bad ρ v ro h hok 140 cs X
    simp only [Bool.false_eq_true, if_false]
    repeat' (first | (refine tl_is (.func 139) ?_; refine qC rfl rfl ((hw _ [])) ?_; rintro v ρ' L' hle ⟨rfl, rfl, rfl⟩ <;> (try simp only [kM, kN, kO])) | (refine iBu ?_; refine tl_y (y_buildN rfl) rfl rfl ?_) | (refine i_op ?_; first | (refine i_qq ?_; refine qQ ?_) | refine qEf ?_) | refine tl_nil ?_ | (refine i_tc ?_; refine qTc ?_) | (refine i_te ?_; refine qTe ?_) | intro _)
    exact qE (L' := []) ⟨Hp.le_refl _, .inl ⟨by decide, rfl, rfl⟩⟩
  · have hG : RosG ro.p := rosG_iff.1 (by rw [rosOk_p]; exact hok)
    simp only [if_true]
    have hw := fun xb => rwith_spec ρ v ro h hok 140 [.pointer (some ⟨xb, 0, none⟩)] [recC xb rv r] [recC xb rv r] (if recOk r then takesE ro.p r else 220) (takesP ro.p r).next (takesP ro.p r).txns (fun ρ1 hle cb vv sp os hR => take1_spec ρ1 cb xb ro.p vv sp os hR hG rv r (hr.mono hle))
    generalize (if recOk r = true then takesE ro.p r else 220) = e at *
    repeat' (first | (refine tl_is (.func 139) ?_; refine qC rfl rfl (hw _) ?_; rintro v ρ' L' hle ⟨hl1, ⟨he, rfl, rfl⟩ | ⟨he, vv, sp, os, hR, rfl, rfl⟩⟩ <;> (try simp only [kM, kN, kO])) | (refine iBu ?_; refine tl_y (y_buildN rfl) rfl rfl ?_) | (refine i_op ?_; first | (refine i_qq ?_; refine qQ ?_) | refine qEf ?_) | refine tl_nil ?_ | (refine i_tc ?_; refine qTc ?_) | (refine i_te ?_; refine qTe ?_) | intro _)
    · repeat' (first | (refine iBu ?_; refine tl_y (y_buildN rfl) rfl rfl ?_) | (refine i_op ?_; first | (refine i_qq ?_; refine qQ ?_) | refine qEf ?_) | refine tl_nil ?_ | (refine i_tc ?_; refine qTc ?_) | (refine i_te ?_; refine qTe ?_) | intro _)
      exact qE (L' := []) ⟨hl1, .inl ⟨he, rfl, rfl⟩⟩
    · subst he
      obtain ⟨va, vc, rfl, _⟩ := hR.own.slice
      repeat' (first | (refine iBu ?_; refine tl_y (y_buildN rfl) rfl rfl ?_) | (refine i_op ?_; first | (refine i_qq ?_; refine qQ ?_) | refine qEf ?_) | refine tl_nil ?_ | (refine i_tc ?_; refine qTc ?_) | (refine i_te ?_; refine qTe ?_) | intro _)
      exact qE (L' := ownRC _ sp os) ⟨hl1, .inr ⟨by trivial, _, sp, os, hR, rfl, rfl⟩⟩
theorem RosIn.z {ρ : Hp} : RosIn ρ nilS ⟨0, []⟩ := ⟨AS.nil, by simp⟩
theorem own_frozen {ρ : Hp} {next : Int} {vv : Value} {sp : List Value} {os : List OT} {p : RosP} (hR : OwnR vv sp os p.txns) (hG : RosG p) (hn : next = p.next) (hf : ∀ q ∈ (ownRC vv sp os).flatten, ρ q.1 = some q.2) :
    ∃ (v : SV) (ro' : Ros), Value.agg ⟨[.int .i64 next, vv]⟩ = .agg ⟨rosV v ro'⟩ ∧ RosIn ρ v ro' ∧ ro'.p = p := by
  have h8 := hG.len
  obtain ⟨v, ro', e, h1, h2, h3⟩ := hR.frozen (ρ := ρ) (by omega) hG.bounds (fun q hq => hf q (by simp [hq])) (fun q hq => hf q (by simp [hq])) p.next
  refine ⟨v, ro', ?_, h1, h2⟩
  rw [e, hn, ← h3]
theorem takeP_ok {p : RosP} {r : Rc} (he : takeE p r = 0) : RosG (takeP p r) := by
  unfold takeP
  rw [if_pos he]
  unfold takeE at he
  cases h1 : rosOkP p
  · rw [h1] at he; simp at he
  · cases h2 : recOk r
    · rw [h1, h2] at he; simp at he
    · rw [h1, h2] at he
      exact takes_ok (rosG_iff.1 h1) h2 he
/-- the same, with what came frozen -/
theorem takeF_spec (ρ : Hp) (v : SV) (ro : Ros) (h : RosIn ρ v ro) (rv : RV) (r : Rc) (hr : RcIn ρ rv r) : Spec Tryz.prog 60 [.agg ⟨rosV v ro⟩, .agg ⟨recV rv r⟩] ρ []
    (fun z ρ' L' => (ρ.le ρ' ∧ ∃ (v' : SV) (ro' : Ros), z = .tuple ⟨[.agg ⟨rosV v' ro'⟩, .int .i64 (takeE ro.p r)]⟩ ∧ RosIn ρ' v' ro' ∧ ro'.p = takeP ro.p r) ∧ L' = []) := by
  refine Spec.freeze (Post2 := fun z ρ' => ρ.le ρ' ∧ ∃ (v' : SV) (ro' : Ros), z = .tuple ⟨[.agg ⟨rosV v' ro'⟩, .int .i64 (takeE ro.p r)]⟩ ∧ RosIn ρ' v' ro' ∧ ro'.p = takeP ro.p r) (take_spec ρ v ro h rv r hr) ?_
  rintro z ρ' L' _ ⟨hl1, ⟨he, rfl, rfl⟩ | ⟨he, vv, sp, os, hR, rfl, rfl⟩⟩ ρ2 hl2 hf
  · refine ⟨Hp.le_trans hl1 hl2, nilS, ⟨0, []⟩, rfl, RosIn.z, ?_⟩
    unfold takeP; rw [if_neg he]; rfl
  · obtain ⟨v', ro', e1, e2, e3⟩ := own_frozen (next := (takeP ro.p r).next) hR (takeP_ok he) rfl hf
    exact ⟨Hp.le_trans hl1 hl2, v', ro', by rw [e1, he], e2, e3⟩
end Go.Proofs.E

namespace Go.Proofs.E
open Go
set_option linter.unusedVariables false
set_option linter.unusedSimpArgs false
set_option linter.unusedSectionVars false
set_option maxRecDepth 4000
set_option maxHeartbeats 1000000
attribute [local irreducible] Yl TL TC TE Spec YSpec R1 Hp.le EnvLe TS TR YS Stays
-- BN
def askX (X2 : SH) (X2' : TxP → SH) (o : Option TxP) : SH := match o with | none => X2 | some t => if t.state = 1 then X2' t else X2
/-- what is asked of a live transaction -/
def AskR (f : TxP → Int) (g : TxP → TxP) (X2' : TxP → SH) (b : Nat) (P : List Value) (x : Tx) (S : List Value) (ρ1 : Hp) (z : Value) (ρ' : Hp) (L' : SH) : Prop :=
  ρ' = ρ1 ∧ z = .int .i64 (f x.p) ∧ ((f x.p ≠ 0 ∧ ∃ G : SH, L' = G ++ X2' x.p) ∨ (f x.p = 0 ∧ ∃ x' ss' ms', x'.p = g x.p ∧ OwnX x' ss' ms' ∧ L' = blkC b P x' S :: stkC x' ss' :: mrkC x' ms' :: X2' x.p))
abbrev doC (db F : Nat) (cs : List Value) : List (Nat × Obj) := [(db, .cells ⟨[.func (.func F) ⟨[]⟩ ⟨cs⟩]⟩ 181 (0, 0))]
theorem asks1_spec (ρ : Hp) (cb nb db : Nat) (p : RosP) (num : Int) (vv : Value) (sp : List Value) (os : List OT) (hR : OwnR vv sp os p.txns) (hG : RosG p) (F : Nat) [hF : Fun Tryz.prog F] (cs : List Value) (X2 : SH) (X2' : TxP → SH) (f : TxP → Int) (g : TxP → TxP) (hg : ∀ t, (g t).num = t.num)
    (hdo : ∀ b o P x S ss ms, P.length = o → OwnX x ss ms → TxG x.p → x.state = 1 → Spec Tryz.prog F (.pointer (some ⟨b, o, none⟩) :: cs) ρ (blkC b P x S :: stkC x ss :: mrkC x ms :: X2) (AskR f g X2' b P x S ρ)) :
    Spec Tryz.prog 210 [.pointer (some ⟨cb, 0, none⟩), .pointer (some ⟨nb, 0, none⟩), .pointer (some ⟨db, 0, none⟩)] ρ (clkC cb p.next vv noRV zeroRc none :: (ownRC vv sp os ++ ([(nb, .cells ⟨[.int .i64 num]⟩ 3 (0, 0))] :: doC db F cs :: X2)))
      (DoR (askE f (findT p num)) p.next (askT g p (findT p num)).txns ([(nb, .cells ⟨[.int .i64 num]⟩ 3 (0, 0))] :: doC db F cs :: askX X2 X2' (findT p num)) cb ρ) := by
  have h8 := hG.len
  have hol := hR.len
  unfold DoR
  have hat := atO_spec ρ p.next vv sp os (by omega) hR.own num
  have hfa := fun i there (hA : AtT (os.map OT.x) num i there) => find_at (next := p.next) (txns := p.txns) hA hR.says hG
  refine spec_enter Tryz.func210 rfl rfl rfl fun u R => ?_
  simp only [argsE, List.cons_append, List.nil_append]
  repeat' (first | (refine iBu ?_; refine tl_y (y_buildN rfl) rfl rfl ?_) | (refine i_op ?_; first | (refine i_qq ?_; refine qQ ?_) | refine qEf ?_) | refine tl_nil ?_ | (refine i_tc ?_; refine qTc ?_) | (refine i_te ?_; refine qTe ?_) | intro _)
  refine tc_any (Stays _ _ ([clkC cb p.next vv noRV zeroRc none, [(nb, .cells ⟨[.int .i64 num]⟩ 3 (0, 0))]])) (stays_of (hT := tk) (Hp.le_refl _)) ?_
  all_goals refine rMv 0 ?_
  all_goals refine rNc 1 ?_
  all_goals refine rFa 2 ?_
  all_goals refine rLd 3 ?_
  all_goals refine rLd 4 ?_
  all_goals (refine rStep (i := 5) ?_; ((try refine qWant ?_); (first | (refine tl_is (.func 128) ?_; refine qC rfl rfl (hat) ?_; rintro v ρ' L' hle ⟨rfl, i, there, rfl, hAt, rfl⟩ <;> (try simp only [kM, kN, kO])) | (refine i_qq ?_; refine qQ ?_) | (refine qEf ?_; try intro _)) <;> ((try simp only [kM, kN, kO]); refine tl_nil ?_; refine rNext ?_)))
  all_goals refine rMv 6 ?_
  all_goals refine rEx 7 ?_
  all_goals refine rAs 9 ?_
  all_goals (refine rStep (i := 8) ?_; ((try refine qWant ?_); (first | (refine tl_is (.func 128) ?_; refine qC rfl rfl (hat) ?_; rintro v ρ' L' hle ⟨rfl, i, there, rfl, hAt, rfl⟩ <;> (try simp only [kM, kN, kO])) | (refine i_qq ?_; refine qQ ?_) | (refine qEf ?_; try intro _)) <;> ((try simp only [kM, kN, kO]); refine tl_nil ?_; refine rNext ?_)))
  all_goals refine rFull ?_
  all_goals refine rAs 10 ?_
  all_goals refine rDone ?_
  all_goals obtain ⟨hf1, hf2⟩ := hfa i there hAt
  all_goals cases there
  all_goals (first
    | (rw [show findT p num = none from hf2 rfl]
       dsimp only [askE, askT, askX]
       repeat' (first | (refine iBu ?_; refine tl_y (y_buildN rfl) rfl rfl ?_) | (refine i_op ?_; first | (refine i_qq ?_; refine qQ ?_) | refine qEf ?_) | refine tl_nil ?_ | (refine i_tc ?_; refine qTc ?_) | (refine i_te ?_; refine qTe ?_) | intro _)
       exact qE (L' := [] ++ ([(nb, .cells ⟨[.int .i64 num]⟩ 3 (0, 0))] :: doC db F cs :: X2)) ⟨Hp.le_refl _, rfl, .inl ⟨by decide, [], rfl⟩⟩)
    | skip)
  all_goals obtain ⟨hi, hnum, hfind⟩ := hf1 rfl
  all_goals obtain ⟨b, cap, rfl, e1, e2, e3⟩ := hR.own.blk (show 0 < os.length by omega)
  all_goals (
    have hot := hR.each _ (List.getElem_mem hi)
    have hi2 : i < p.txns.length := by omega
    have hti : p.txns[i] = (os[i].x).p := by simp [← hR.says]
    have hxg : TxG (os[i].x).p := by rw [← hti]; exact (hG.tx _ (List.getElem_mem hi2)).2.2
    have hti2 : (p.txns[i]).num = os[i].x.num := by rw [hti]
    obtain ⟨hE, hAl⟩ := among hi
    have hfind2 : findT p num = some os[i].x.p := hfind
    generalize os[i] = ot at *
    generalize os.take i = A at *
    generalize os.drop (i + 1) = B at *
    rw [hfind2]
    dsimp only [askE, askT, askX]
    have hPl : (txF A).length = 0 + i * 7 := by rw [txF_len, hAl]; omega
    have hfE : txF os = txF A ++ (txV ot.x ++ txF B) := by rw [hE, txF_app, show txF (ot :: B) = txF ([ot] ++ B) from rfl, txF_app, txF_one]
    have hCe : ownC (.slice (some ⟨b, 0, none⟩) os.length cap) (txF os) sp 72 = blkC b (txF A) ot.x (txF B ++ sp) := by
      show [(b, Obj.cells ⟨txF os ++ sp⟩ 72 (0, 0))] = _
      rw [hfE]; simp
    have hst : stC os = stC A ++ ((stkC ot.x ot.ss ++ mrkC ot.x ot.ms) ++ stC B) := by rw [hE, stC_app, show stC (ot :: B) = stC ([ot] ++ B) from rfl, stC_app, stC_one]
    have hli := live_spec ρ' cb p.next (.slice (some ⟨b, 0, none⟩) os.length cap) noRV zeroRc b (0 + i * 7) (txF A) ot.x (txF B ++ sp) hPl)
  all_goals (repeat' (first | (refine iBu ?_; refine tl_y (y_buildN rfl) rfl rfl ?_) | (refine i_op ?_; first | (refine i_qq ?_; refine qQ ?_) | refine qEf ?_) | refine tl_nil ?_ | (refine i_tc ?_; refine qTc ?_) | (refine i_te ?_; refine qTe ?_) | intro _))
  all_goals rw [hCe]
  all_goals by_cases hlv : ot.x.state = 1
  · simp only [if_pos hlv]
    rw [decide_eq_true hlv] at hli
    repeat' (first | (refine tl_is (.func 211) ?_; refine qC rfl rfl (hli) ?_; rintro v ρ' L' hle ⟨rfl, rfl, rfl⟩ <;> (try simp only [kM, kN, kO])) | (refine iBu ?_; refine tl_y (y_buildN rfl) rfl rfl ?_) | (refine i_op ?_; first | (refine i_qq ?_; refine qQ ?_) | refine qEf ?_) | refine tl_nil ?_ | (refine i_tc ?_; refine qTc ?_) | (refine i_te ?_; refine qTe ?_) | intro _)
    have hd := hdo b (0 + i * 7) (txF A) ot.x (txF B ++ sp) ot.ss ot.ms hPl hot hxg hlv
    unfold AskR at hd
    have hnx : (g ot.x.p).num = ot.x.num := hg _
    generalize f ot.x.p = fe at *
    generalize g ot.x.p = nx at *
    generalize X2' ot.x.p = Xf at *
    rw [hst]
    refine tc_split (stC A) _ ?_
    refine tc_split (stkC ot.x ot.ss ++ mrkC ot.x ot.ms) (stC B) ?_
    refine tc_split (stkC ot.x ot.ss) (mrkC ot.x ot.ms) ?_
    refine tc_any (Stays _ _ ([clkC cb p.next (.slice (some ⟨b, 0, none⟩) os.length cap) noRV zeroRc (some ⟨b, 0 + i * 7, none⟩), doC db F cs])) (stays_of (hT := tk) (Hp.le_refl _)) ?_
    all_goals refine rLd 0 ?_
    all_goals refine rMv 1 ?_
    all_goals refine rNc 2 ?_
    all_goals refine rFa 3 ?_
    all_goals refine rLd 4 ?_
    all_goals (refine rStep (i := 5) ?_; ((try refine qWant ?_); (first | (refine tl_is (.tmp 31) ?_; refine qC rfl rfl (hd) ?_; rintro v ρ' L' hle ⟨rfl, rfl, ⟨he, G, rfl⟩ | ⟨he, x', ss', ms', e4, hX', rfl⟩⟩ <;> (try simp only [kM, kN, kO])) | (refine qEf ?_; try intro _)) <;> ((try simp only [kM, kN, kO]); refine tl_nil ?_; refine rNext ?_)))
    all_goals refine rFull ?_
    all_goals refine rAs 6 ?_
    all_goals refine rDone ?_
    · simp only [List.append_nil, List.append_assoc]
      repeat' (first | (refine iBu ?_; refine tl_y (y_buildN rfl) rfl rfl ?_) | (refine i_op ?_; first | (refine i_qq ?_; refine qQ ?_) | refine qEf ?_) | refine tl_nil ?_ | (refine i_tc ?_; refine qTc ?_) | (refine i_te ?_; refine qTe ?_) | intro _)
      exact qE (L' := (G ++ ([(nb, .cells ⟨[.int .i64 num]⟩ 3 (0, 0))] :: doC db F cs :: Xf))) ⟨Hp.le_refl _, rfl, .inl ⟨he, G, rfl⟩⟩
    · subst he
      repeat' (first | (refine iBu ?_; refine tl_y (y_buildN rfl) rfl rfl ?_) | (refine i_op ?_; first | (refine i_qq ?_; refine qQ ?_) | refine qEf ?_) | refine tl_nil ?_ | (refine i_tc ?_; refine qTc ?_) | (refine i_te ?_; refine qTe ?_) | intro _)
      have hlo : (A ++ (⟨x', ss', ms'⟩ : OT) :: B).length = os.length := by rw [hE]; simp
      have hf1E : txF (A ++ (⟨x', ss', ms'⟩ : OT) :: B) = txF A ++ (txV x' ++ txF B) := by rw [txF_app, show txF ((⟨x', ss', ms'⟩ : OT) :: B) = txF ([(⟨x', ss', ms'⟩ : OT)] ++ B) from rfl, txF_app, txF_one]
      have hown1 := hR.own.turn (xs' := txF (A ++ (⟨x', ss', ms'⟩ : OT) :: B)) (by rw [txF_len, txF_len, hlo])
      have hCf : blkC b (txF A) x' (txF B ++ sp) = ownC (.slice (some ⟨b, 0, none⟩) os.length cap) (txF (A ++ (⟨x', ss', ms'⟩ : OT) :: B)) sp 72 := by
        show _ = [(b, Obj.cells ⟨txF (A ++ (⟨x', ss', ms'⟩ : OT) :: B) ++ sp⟩ 72 (0, 0))]
        rw [hf1E]; simp
      have hst9 : stC A ++ ((stkC x' ss' ++ mrkC x' ms') ++ stC B) = stC (A ++ (⟨x', ss', ms'⟩ : OT) :: B) := by rw [stC_app, show stC ((⟨x', ss', ms'⟩ : OT) :: B) = stC ([(⟨x', ss', ms'⟩ : OT)] ++ B) from rfl, stC_app, stC_one]
      have hsay : (A ++ (⟨x', ss', ms'⟩ : OT) :: B).map (fun o => o.x.p) = (putT p nx).txns := by
        rw [putT_set hG hi2 (by rw [hti2]; exact hnx)]
        dsimp only
        rw [← hR.says, hE, List.map_append, List.map_cons, List.map_append, List.map_cons, List.set_append_right _ _ (by rw [List.length_map]; omega), List.length_map, hAl, Nat.sub_self, List.set_cons_zero, e4]
      have hCf2 : ∀ Y : SH, (blkC b (txF A) x' (txF B ++ sp) :: Y) = (ownC (.slice (some ⟨b, 0, none⟩) os.length cap) (txF (A ++ (⟨x', ss', ms'⟩ : OT) :: B)) sp 72 :: Y) := fun Y => by rw [hCf]
      rw [hCf2]
      refine te_merge (stkC x' ss') (mrkC x' ms') ?_
      refine te_merge (stkC x' ss' ++ mrkC x' ms') (stC B) ?_
      refine te_merge (stC A) ((stkC x' ss' ++ mrkC x' ms') ++ stC B) ?_
      rw [hst9]
      refine qE (L' := clkC cb p.next (.slice (some ⟨b, 0, none⟩) os.length cap) noRV zeroRc (some ⟨b, 0 + i * 7, none⟩) :: (ownRC (.slice (some ⟨b, 0, none⟩) os.length cap) sp (A ++ (⟨x', ss', ms'⟩ : OT) :: B) ++ ([(nb, .cells ⟨[.int .i64 num]⟩ 3 (0, 0))] :: doC db F cs :: Xf))) ⟨Hp.le_refl _, rfl, .inr ⟨by trivial, _, sp, A ++ (⟨x', ss', ms'⟩ : OT) :: B, noRV, zeroRc, _, ⟨by rw [hlo]; exact hown1, fun o ho => ?_, hsay⟩, rfl⟩⟩
      rcases List.mem_append.1 ho with ho | ho
      · exact hR.each o (by rw [hE]; exact List.mem_append_left _ ho)
      · rcases List.mem_cons.1 ho with rfl | ho
        · exact hX'
        · exact hR.each o (by rw [hE]; exact List.mem_append_right _ (List.mem_cons_of_mem _ ho))
  · simp only [if_neg hlv]
    rw [decide_eq_false hlv] at hli
    repeat' (first | (refine tl_is (.func 211) ?_; refine qC rfl rfl (hli) ?_; rintro v ρ' L' hle ⟨rfl, rfl, rfl⟩ <;> (try simp only [kM, kN, kO])) | (refine iBu ?_; refine tl_y (y_buildN rfl) rfl rfl ?_) | (refine i_op ?_; first | (refine i_qq ?_; refine qQ ?_) | refine qEf ?_) | refine tl_nil ?_ | (refine i_tc ?_; refine qTc ?_) | (refine i_te ?_; refine qTe ?_) | intro _)
    exact qE (L' := [] ++ ([(nb, .cells ⟨[.int .i64 num]⟩ 3 (0, 0))] :: doC db F cs :: X2)) ⟨Hp.le_refl _, rfl, .inl ⟨by decide, [], rfl⟩⟩
end Go.Proofs.E

namespace Go.Proofs.E
open Go
set_option linter.unusedVariables false
set_option linter.unusedSimpArgs false
set_option linter.unusedSectionVars false
set_option maxRecDepth 4000
set_option maxHeartbeats 1000000
attribute [local irreducible] Yl TL TC TE Spec YSpec R1 Hp.le EnvLe TS TR YS Stays
-- BN
theorem askT_next (g : TxP → TxP) (p : RosP) (o : Option TxP) : (askT g p o).next = p.next := by cases o <;> rfl
def asksX (X2 : SH) (X2' : TxP → SH) (p : RosP) (num : Int) : SH := if rosOkP p then askX X2 X2' (findT p num) else X2
theorem asks_spec (ρ : Hp) (v : SV) (ro : Ros) (h : RosIn ρ v ro) (num : Int) (F : Nat) [hF : Fun Tryz.prog F] (cs : List Value) (X2 : SH) (X2' : TxP → SH) (f : TxP → Int) (g : TxP → TxP) (hg : ∀ t, (g t).num = t.num)
    (hdo : ∀ ρ1, ρ.le ρ1 → ∀ b o P x S ss ms, P.length = o → OwnX x ss ms → TxG x.p → x.state = 1 → Spec Tryz.prog F (.pointer (some ⟨b, o, none⟩) :: cs) ρ1 (blkC b P x S :: stkC x ss :: mrkC x ms :: X2) (AskR f g X2' b P x S ρ1)) :
    Spec Tryz.prog 134 [.agg ⟨rosV v ro⟩, .int .i64 num, .func (.func F) ⟨[]⟩ ⟨cs⟩] ρ X2
      (fun z ρ' L' => ρ.le ρ' ∧ ((asksE f ro.p num ≠ 0 ∧ z = .tuple ⟨[.agg ⟨[.int .i64 0, .slice none 0 0]⟩, .int .i64 (asksE f ro.p num)]⟩ ∧ L' = asksX X2 X2' ro.p num) ∨
        (asksE f ro.p num = 0 ∧ ∃ vv sp os, OwnR vv sp os (asksP f g ro.p num).txns ∧ z = .tuple ⟨[.agg ⟨[.int .i64 (asksP f g ro.p num).next, vv]⟩, .int .i64 0]⟩ ∧ L' = ownRC vv sp os ++ asksX X2 X2' ro.p num))) := by
  refine spec_enter Tryz.func134 rfl rfl rfl fun u R => ?_
  simp only [argsE, List.cons_append, List.nil_append]
  unfold asksP asksE asksX
  rw [rosOk_p]
  cases hok : rosOk ro
  · have hw := fun cs X => rwith_bad ρ v ro h hok 210 cs X
    simp only [Bool.false_eq_true, if_false]
    repeat' (first | (refine tl_is (.func 139) ?_; refine qC rfl rfl ((hw _ [])) ?_; rintro v ρ' L' hle ⟨rfl, rfl, rfl⟩ <;> (try simp only [kM, kN, kO])) | (refine iBu ?_; refine tl_y (y_buildN rfl) rfl rfl ?_) | (refine i_op ?_; first | (refine i_qq ?_; refine qQ ?_) | refine qEf ?_) | refine tl_nil ?_ | (refine i_tc ?_; refine qTc ?_) | (refine i_te ?_; refine qTe ?_) | intro _)
    exact qE (L' := X2) ⟨Hp.le_refl _, .inl ⟨by decide, rfl, rfl⟩⟩
  · have hG : RosG ro.p := rosG_iff.1 (by rw [rosOk_p]; exact hok)
    simp only [if_true]
    have hw := fun nb db => rwith_spec ρ v ro h hok 210 [.pointer (some ⟨nb, 0, none⟩), .pointer (some ⟨db, 0, none⟩)] ([(nb, .cells ⟨[.int .i64 num]⟩ 3 (0, 0))] :: doC db F cs :: X2) ([(nb, .cells ⟨[.int .i64 num]⟩ 3 (0, 0))] :: doC db F cs :: askX X2 X2' (findT ro.p num)) (askE f (findT ro.p num)) ro.p.next (askT g ro.p (findT ro.p num)).txns (fun ρ1 hle cb vv sp os hR => asks1_spec ρ1 cb nb db ro.p num vv sp os hR hG F cs X2 X2' f g hg (hdo ρ1 hle))
    have hnx := askT_next g ro.p (findT ro.p num)
    generalize askE f (findT ro.p num) = e at *
    generalize askX X2 X2' (findT ro.p num) = Xf at *
    generalize askT g ro.p (findT ro.p num) = pa at *
    rw [← hnx] at hw
    repeat' (first | (refine tl_is (.func 139) ?_; refine qC rfl rfl (hw _ _) ?_; rintro v ρ' L' hle ⟨hl1, ⟨he, rfl, rfl⟩ | ⟨he, vv, sp, os, hR, rfl, rfl⟩⟩ <;> (try simp only [kM, kN, kO])) | (refine iBu ?_; refine tl_y (y_buildN rfl) rfl rfl ?_) | (refine i_op ?_; first | (refine i_qq ?_; refine qQ ?_) | refine qEf ?_) | refine tl_nil ?_ | (refine i_tc ?_; refine qTc ?_) | (refine i_te ?_; refine qTe ?_) | intro _)
    · repeat' (first | (refine iBu ?_; refine tl_y (y_buildN rfl) rfl rfl ?_) | (refine i_op ?_; first | (refine i_qq ?_; refine qQ ?_) | refine qEf ?_) | refine tl_nil ?_ | (refine i_tc ?_; refine qTc ?_) | (refine i_te ?_; refine qTe ?_) | intro _)
      exact qE (L' := Xf) ⟨hl1, .inl ⟨he, rfl, rfl⟩⟩
    · subst he
      obtain ⟨va, vc, rfl, _⟩ := hR.own.slice
      repeat' (first | (refine iBu ?_; refine tl_y (y_buildN rfl) rfl rfl ?_) | (refine i_op ?_; first | (refine i_qq ?_; refine qQ ?_) | refine qEf ?_) | refine tl_nil ?_ | (refine i_tc ?_; refine qTc ?_) | (refine i_te ?_; refine qTe ?_) | intro _)
      exact qE (L' := ownRC _ sp os ++ Xf) ⟨hl1, .inr ⟨by trivial, _, sp, os, hR, rfl, rfl⟩⟩
abbrev intC (nb : Nat) (n : Int) : List (Nat × Obj) := [(nb, .cells ⟨[.int .i64 n]⟩ 3 (0, 0))]
abbrev u64C (nb : Nat) (n : Nat) : List (Nat × Obj) := [(nb, .cells ⟨[.int .u64 n]⟩ 24 (0, 0))]
def markX (nb : Nat) (t : TxP) : SH := [intC nb (if 8 ≤ t.marks.length then 0 else ((t.marks.length + 1 : Nat) : Int))]
theorem mark1_spec (ρ : Hp) (nb b o : Nat) (P : List Value) (x : Tx) (S ss ms : List Value) (hP : P.length = o) (hX : OwnX x ss ms) (hx : TxG x.p) :
    Spec Tryz.prog 137 [.pointer (some ⟨b, o, none⟩), .pointer (some ⟨nb, 0, none⟩)] ρ (blkC b P x S :: stkC x ss :: mrkC x ms :: [intC nb 0]) (AskR markF markG (markX nb) b P x S ρ) := by
  have hg4 : (P ++ txQ x S)[o + 4]? = some (.int .u64 x.undo) := q_get hP rfl
  have hg6 : (P ++ txQ x S)[o + 6]? = some (.slice x.mv.a x.mv.n x.mv.c) := q_get hP rfl
  have hml : x.marks.length ≤ 8 := hx.ml
  have hnn := hX.m.nn.1
  unfold AskR markF markX
  show Spec Tryz.prog _ _ _ _ (fun z ρ' L' => ρ' = ρ ∧ z = .int .i64 (if 8 ≤ x.marks.length then 6 else 0) ∧ (((if 8 ≤ x.marks.length then (6 : Int) else 0) ≠ 0 ∧ ∃ G : SH, L' = G ++ [intC nb (if 8 ≤ x.marks.length then 0 else ((x.marks.length + 1 : Nat) : Int))]) ∨ ((if 8 ≤ x.marks.length then (6 : Int) else 0) = 0 ∧ ∃ x' ss' ms', x'.p = markG x.p ∧ OwnX x' ss' ms' ∧ L' = blkC b P x' S :: stkC x' ss' :: mrkC x' ms' :: [intC nb (if 8 ≤ x.marks.length then 0 else ((x.marks.length + 1 : Nat) : Int))])))
  refine spec_enter Tryz.func137 rfl rfl rfl fun u R => ?_
  simp only [argsE, List.cons_append, List.nil_append]
  by_cases h8 : 8 ≤ x.marks.length
  · simp only [if_pos h8]
    repeat' (first | (refine iBu ?_; refine tl_y (y_buildN rfl) rfl rfl ?_) | (refine i_op ?_; first | (refine i_qq ?_; refine qQ ?_) | refine qEf ?_) | refine tl_nil ?_ | (refine i_tc ?_; refine qTc ?_) | (refine i_te ?_; refine qTe ?_) | intro _)
    exact qE (L' := [] ++ [intC nb 0]) ⟨rfl, rfl, .inl ⟨by decide, [], rfl⟩⟩
  · simp only [if_neg h8]
    repeat' (first | (refine iBu ?_; refine tl_y (y_buildN rfl) rfl rfl ?_) | (refine i_op ?_; first | (refine i_qq ?_; refine qQ ?_) | refine qEf ?_) | refine tl_nil ?_ | (refine i_tc ?_; refine qTc ?_) | (refine i_te ?_; refine qTe ?_) | intro _)
    refine tc_phase 11 (Stays _ _ ([blkC b P x S])) (by decide +kernel) (stays_of (hT := tk) (Hp.le_refl _)) ?_
    simp only [List.take_succ_cons, List.take_zero]
    all_goals refine rMv 0 ?_
    all_goals refine rMv 1 ?_
    all_goals refine rNc 2 ?_
    all_goals refine rFa 3 ?_
    all_goals refine rLd 4 ?_
    all_goals refine rMv 5 ?_
    all_goals refine rNc 6 ?_
    all_goals refine rFa 7 ?_
    all_goals refine rLd 8 ?_
    all_goals (refine rStep (i := 9) ?_; ((try refine qWant ?_); (first | (refine tl_buildSlice_s rfl rfl rfl rfl (by simp) rfl rfl (fun bs => ?_)) | (refine qEf ?_; try intro _)) <;> ((try simp only [kM, kN, kO]); refine tl_nil ?_; refine rNext ?_)))
    all_goals (refine rStep (i := 10) ?_; ((try refine qWant ?_); (first | (refine tl_app (ys := [u64c x.undo]) (m := 1) rfl rfl hX.m (hR := by infer_instance) SrcV.lit rfl rfl (by decide) rfl (by omega) (by omega) rfl (fun v' sp' hown' => ?_); obtain ⟨a1, c1, rfl, q1⟩ := hown'.slice) | (refine qEf ?_; try intro _)) <;> ((try simp only [kM, kN, kO]); refine tl_nil ?_; refine rNext ?_)))
    all_goals refine rDone ?_
    all_goals refine te_phase (fuel := 3) (m := [true, true, true, true, true, true, true, true, true, true, true, false, false, false]) (Stays _ _ ([])) rfl rfl (stays_of (hT := tk) (Hp.le_refl _)) ?_
    all_goals refine rNc 11 ?_
    all_goals refine rFa 12 ?_
    all_goals (refine rStep (i := 13) ?_; ((try refine qWant ?_); (first | (refine tl_store_q (o := o) (P := P) rfl rfl hP rfl ?_) | (refine qEf ?_; try intro _)) <;> ((try simp only [kM, kN, kO]); refine tl_nil ?_; refine rNext ?_)))
    all_goals refine rDone ?_
    all_goals have hg6' : (P ++ txQ { x with marks := x.marks ++ [x.undo], mv := ⟨a1, x.marks.length + 1, c1⟩ } S)[o + 6]? = some (.slice a1 (x.marks.length + 1) c1) := q_get hP rfl
    all_goals have hm : x.marks.map u64c ++ [u64c x.undo] = (x.marks ++ [x.undo]).map u64c := by simp
    all_goals rw [hm] at hown' ⊢
    all_goals (repeat' (first | (refine iBu ?_; refine tl_y (y_buildN rfl) rfl rfl ?_) | (refine i_op ?_; first | (refine i_qq ?_; refine qQ ?_) | refine qEf ?_) | refine tl_nil ?_ | (refine i_tc ?_; refine qTc ?_) | (refine i_te ?_; refine qTe ?_) | intro _))
    all_goals exact qE (L' := blkC b P { x with marks := x.marks ++ [x.undo], mv := ⟨a1, x.marks.length + 1, c1⟩ } S :: stkC x ss :: mrkC { x with marks := x.marks ++ [x.undo], mv := ⟨a1, x.marks.length + 1, c1⟩ } sp' :: [intC nb ((x.marks.length + 1 : Nat) : Int)]) ⟨rfl, rfl, .inr ⟨by trivial, { x with marks := x.marks ++ [x.undo], mv := ⟨a1, x.marks.length + 1, c1⟩ }, ss, sp', rfl, ⟨hX.s, by simpa using hown'⟩, rfl⟩⟩
end Go.Proofs.E

namespace Go.Proofs.E
open Go
set_option linter.unusedVariables false
set_option linter.unusedSimpArgs false
set_option linter.unusedSectionVars false
set_option maxRecDepth 4000
set_option maxHeartbeats 1000000
attribute [local irreducible] Yl TL TC TE Spec YSpec R1 Hp.le EnvLe TS TR YS Stays
-- BN
def whereX (nb mb : Nat) (n : Int) (t : TxP) : SH := [intC nb n, u64C mb (if whereF n t = 0 then whereN n t else 0)]
theorem mark_cell {x : Tx} {ss ms : List Value} (hX : OwnX x ss ms) {n : Int} (h1 : 1 ≤ n) (h2 : n ≤ (x.marks.length : Int)) : ∃ mb c, x.mv = ⟨some ⟨mb, 0, none⟩, x.marks.length, c⟩ ∧ mrkC x ms = [(mb, .cells ⟨x.marks.map u64c ++ ms⟩ 24 (0, 0))] ∧ (x.marks.map u64c ++ ms)[0 + (n - 1).toNat * 1]? = some (u64c (x.marks.getD (n - 1).toNat 0)) := by
  obtain ⟨mb, c, e, _, _, _⟩ := hX.m.blk (show 0 < x.marks.length by omega)
  obtain ⟨num, st, fi, la, un, sk, mk, sv, ⟨ma, mn, mc⟩⟩ := x
  dsimp only at *
  have f := Value.slice.inj e
  obtain ⟨rfl, rfl, rfl⟩ := f
  refine ⟨mb, _, rfl, rfl, ?_⟩
  rw [List.getElem?_append_left (by simp; omega)]
  have hlt : (n - 1).toNat < mk.length := by omega
  rw [Nat.zero_add, Nat.mul_one, List.getElem?_map, List.getElem?_eq_getElem hlt, getD_get hlt]
  rfl
theorem where1_spec (ρ : Hp) (nb mb0 : Nat) (n : Int) (hnb : i64in n) (b o : Nat) (P : List Value) (x : Tx) (S ss ms : List Value) (hP : P.length = o) (hX : OwnX x ss ms) (hx : TxG x.p) :
    Spec Tryz.prog 135 [.pointer (some ⟨b, o, none⟩), .pointer (some ⟨nb, 0, none⟩), .pointer (some ⟨mb0, 0, none⟩)] ρ (blkC b P x S :: stkC x ss :: mrkC x ms :: [intC nb n, u64C mb0 0]) (AskR (whereF n) id (whereX nb mb0 n) b P x S ρ) := by
  have hg6 : (P ++ txQ x S)[o + 6]? = some (.slice x.mv.a x.mv.n x.mv.c) := q_get hP rfl
  have hml : x.marks.length ≤ 8 := hx.ml
  have hnn := hX.m.nn.1
  unfold AskR whereX
  have hwF : whereF n x.p = if n < 1 ∨ (x.marks.length : Int) < n then 4 else 0 := rfl
  have hwN : whereN n x.p = x.marks.getD (n - 1).toNat 0 := rfl
  rw [hwF, hwN]
  refine spec_enter Tryz.func135 rfl rfl rfl fun u R => ?_
  simp only [argsE, List.cons_append, List.nil_append]
  by_cases h1 : n < 1
  · simp only [if_pos (show n < 1 ∨ (x.marks.length : Int) < n from .inl h1), show ¬ ((4 : Int) = 0) by decide, if_false]
    repeat' (first | (refine iBu ?_; refine tl_y (y_buildN rfl) rfl rfl ?_) | (refine i_op ?_; first | (refine i_qq ?_; refine qQ ?_) | refine qEf ?_) | refine tl_nil ?_ | (refine i_tc ?_; refine qTc ?_) | (refine i_te ?_; refine qTe ?_) | intro _)
    refine tc_any (Stays _ _ ([blkC b P x S, intC nb n])) (stays_of (hT := tk) (Hp.le_refl _)) ?_
    all_goals refine rLd 0 ?_
    all_goals refine rFull ?_
    all_goals refine rCm 1 ?_
    all_goals refine rMv 2 ?_
    all_goals (first | refine wSkip 3 ?_ | refine wSkipU 3 ?_ | refine wLd 3 ?_ | (refine tr_guard (t := 7) rfl (fun hb => ?_) (fun hb => ?_) <;> (try simp only [kk] at hb) <;> first | refine wSkip 3 ?_ | refine wSkipU 3 ?_ | refine wLd 3 ?_))
    all_goals (first | refine wSkip 4 ?_ | refine wSkipU 4 ?_ | refine wMv 4 ?_ | (refine tr_guard (t := 7) rfl (fun hb => ?_) (fun hb => ?_) <;> (try simp only [kk] at hb) <;> first | refine wSkip 4 ?_ | refine wSkipU 4 ?_ | refine wMv 4 ?_))
    all_goals (first | refine wSkip 5 ?_ | refine wSkipU 5 ?_ | refine wNc 5 ?_ | (refine tr_guard (t := 7) rfl (fun hb => ?_) (fun hb => ?_) <;> (try simp only [kk] at hb) <;> first | refine wSkip 5 ?_ | refine wSkipU 5 ?_ | refine wNc 5 ?_))
    all_goals (first | refine wSkip 6 ?_ | refine wSkipU 6 ?_ | refine wFa 6 ?_ | (refine tr_guard (t := 7) rfl (fun hb => ?_) (fun hb => ?_) <;> (try simp only [kk] at hb) <;> first | refine wSkip 6 ?_ | refine wSkipU 6 ?_ | refine wFa 6 ?_))
    all_goals (first | refine wSkip 7 ?_ | refine wSkipU 7 ?_ | refine wLd 7 ?_ | (refine tr_guard (t := 7) rfl (fun hb => ?_) (fun hb => ?_) <;> (try simp only [kk] at hb) <;> first | refine wSkip 7 ?_ | refine wSkipU 7 ?_ | refine wLd 7 ?_))
    all_goals (first | refine wSkip 8 ?_ | refine wSkipU 8 ?_ | refine wBi 8 ?_ | (refine tr_guard (t := 7) rfl (fun hb => ?_) (fun hb => ?_) <;> (try simp only [kk] at hb) <;> first | refine wSkip 8 ?_ | refine wSkipU 8 ?_ | refine wBi 8 ?_))
    all_goals (first | refine wSkip 9 ?_ | refine wSkipU 9 ?_ | refine wCm 9 ?_ | (refine tr_guard (t := 7) rfl (fun hb => ?_) (fun hb => ?_) <;> (try simp only [kk] at hb) <;> first | refine wSkip 9 ?_ | refine wSkipU 9 ?_ | refine wCm 9 ?_))
    all_goals refine rPk 10 ?_
    all_goals refine rDone ?_
    all_goals (repeat' (first | (refine iBu ?_; refine tl_y (y_buildN rfl) rfl rfl ?_) | (refine i_op ?_; first | (refine i_qq ?_; refine qQ ?_) | refine qEf ?_) | refine tl_nil ?_ | (refine i_tc ?_; refine qTc ?_) | (refine i_te ?_; refine qTe ?_) | intro _))
    all_goals exact qE (L' := [] ++ [intC nb n, u64C mb0 0]) ⟨rfl, rfl, .inl ⟨by decide, [], rfl⟩⟩
  · by_cases h2 : (x.marks.length : Int) < n
    · simp only [if_pos (show n < 1 ∨ (x.marks.length : Int) < n from .inr h2), show ¬ ((4 : Int) = 0) by decide, if_false]
      repeat' (first | (refine iBu ?_; refine tl_y (y_buildN rfl) rfl rfl ?_) | (refine i_op ?_; first | (refine i_qq ?_; refine qQ ?_) | refine qEf ?_) | refine tl_nil ?_ | (refine i_tc ?_; refine qTc ?_) | (refine i_te ?_; refine qTe ?_) | intro _)
      refine tc_any (Stays _ _ ([blkC b P x S, intC nb n])) (stays_of (hT := tk) (Hp.le_refl _)) ?_
      all_goals refine rLd 0 ?_
      all_goals refine rFull ?_
      all_goals refine rCm 1 ?_
      all_goals refine rMv 2 ?_
      all_goals (first | refine wSkip 3 ?_ | refine wSkipU 3 ?_ | refine wLd 3 ?_ | (refine tr_guard (t := 7) rfl (fun hb => ?_) (fun hb => ?_) <;> (try simp only [kk] at hb) <;> first | refine wSkip 3 ?_ | refine wSkipU 3 ?_ | refine wLd 3 ?_))
      all_goals (first | refine wSkip 4 ?_ | refine wSkipU 4 ?_ | refine wMv 4 ?_ | (refine tr_guard (t := 7) rfl (fun hb => ?_) (fun hb => ?_) <;> (try simp only [kk] at hb) <;> first | refine wSkip 4 ?_ | refine wSkipU 4 ?_ | refine wMv 4 ?_))
      all_goals (first | refine wSkip 5 ?_ | refine wSkipU 5 ?_ | refine wNc 5 ?_ | (refine tr_guard (t := 7) rfl (fun hb => ?_) (fun hb => ?_) <;> (try simp only [kk] at hb) <;> first | refine wSkip 5 ?_ | refine wSkipU 5 ?_ | refine wNc 5 ?_))
      all_goals (first | refine wSkip 6 ?_ | refine wSkipU 6 ?_ | refine wFa 6 ?_ | (refine tr_guard (t := 7) rfl (fun hb => ?_) (fun hb => ?_) <;> (try simp only [kk] at hb) <;> first | refine wSkip 6 ?_ | refine wSkipU 6 ?_ | refine wFa 6 ?_))
      all_goals (first | refine wSkip 7 ?_ | refine wSkipU 7 ?_ | refine wLd 7 ?_ | (refine tr_guard (t := 7) rfl (fun hb => ?_) (fun hb => ?_) <;> (try simp only [kk] at hb) <;> first | refine wSkip 7 ?_ | refine wSkipU 7 ?_ | refine wLd 7 ?_))
      all_goals (first | refine wSkip 8 ?_ | refine wSkipU 8 ?_ | refine wBi 8 ?_ | (refine tr_guard (t := 7) rfl (fun hb => ?_) (fun hb => ?_) <;> (try simp only [kk] at hb) <;> first | refine wSkip 8 ?_ | refine wSkipU 8 ?_ | refine wBi 8 ?_))
      all_goals (first | refine wSkip 9 ?_ | refine wSkipU 9 ?_ | refine wCm 9 ?_ | (refine tr_guard (t := 7) rfl (fun hb => ?_) (fun hb => ?_) <;> (try simp only [kk] at hb) <;> first | refine wSkip 9 ?_ | refine wSkipU 9 ?_ | refine wCm 9 ?_))
      all_goals refine rPk 10 ?_
      all_goals refine rDone ?_
      all_goals (repeat' (first | (refine iBu ?_; refine tl_y (y_buildN rfl) rfl rfl ?_) | (refine i_op ?_; first | (refine i_qq ?_; refine qQ ?_) | refine qEf ?_) | refine tl_nil ?_ | (refine i_tc ?_; refine qTc ?_) | (refine i_te ?_; refine qTe ?_) | intro _))
      all_goals exact qE (L' := [] ++ [intC nb n, u64C mb0 0]) ⟨rfl, rfl, .inl ⟨by decide, [], rfl⟩⟩
    · simp only [if_neg (show ¬ (n < 1 ∨ (x.marks.length : Int) < n) by omega), if_true]
      obtain ⟨mb, c, emv, em, hcell⟩ := mark_cell hX (show 1 ≤ n by omega) (show n ≤ (x.marks.length : Int) by omega)
      rw [emv] at hg6 hnn
      dsimp only at hg6 hnn
      have hQ : txQ x S = .int .i64 x.num :: .int .i64 x.state :: .int .u64 x.first :: .int .u64 x.last :: .int .u64 x.undo :: .slice x.sv.a x.sv.n x.sv.c :: .slice (some ⟨mb, 0, none⟩) x.marks.length c :: S := by rw [← show (⟨some ⟨mb, 0, none⟩, x.marks.length, c⟩ : SV).a = some ⟨mb, 0, none⟩ from rfl]; simp [txQ, emv]
      repeat' (first | (refine iBu ?_; refine tl_y (y_buildN rfl) rfl rfl ?_) | (refine i_op ?_; first | (refine i_qq ?_; refine qQ ?_) | refine qEf ?_) | refine tl_nil ?_ | (refine i_tc ?_; refine qTc ?_) | (refine i_te ?_; refine qTe ?_) | intro _)
      refine tc_any (Stays _ _ ([blkC b P x S, intC nb n])) (stays_of (hT := tk) (Hp.le_refl _)) ?_
      all_goals refine rLd 0 ?_
      all_goals refine rFull ?_
      all_goals refine rCm 1 ?_
      all_goals refine rMv 2 ?_
      all_goals (first | refine wSkip 3 ?_ | refine wSkipU 3 ?_ | refine wLd 3 ?_ | (refine tr_guard (t := 7) rfl (fun hb => ?_) (fun hb => ?_) <;> (try simp only [kk] at hb) <;> first | refine wSkip 3 ?_ | refine wSkipU 3 ?_ | refine wLd 3 ?_))
      all_goals (first | refine wSkip 4 ?_ | refine wSkipU 4 ?_ | refine wMv 4 ?_ | (refine tr_guard (t := 7) rfl (fun hb => ?_) (fun hb => ?_) <;> (try simp only [kk] at hb) <;> first | refine wSkip 4 ?_ | refine wSkipU 4 ?_ | refine wMv 4 ?_))
      all_goals (first | refine wSkip 5 ?_ | refine wSkipU 5 ?_ | refine wNc 5 ?_ | (refine tr_guard (t := 7) rfl (fun hb => ?_) (fun hb => ?_) <;> (try simp only [kk] at hb) <;> first | refine wSkip 5 ?_ | refine wSkipU 5 ?_ | refine wNc 5 ?_))
      all_goals (first | refine wSkip 6 ?_ | refine wSkipU 6 ?_ | refine wFa 6 ?_ | (refine tr_guard (t := 7) rfl (fun hb => ?_) (fun hb => ?_) <;> (try simp only [kk] at hb) <;> first | refine wSkip 6 ?_ | refine wSkipU 6 ?_ | refine wFa 6 ?_))
      all_goals (first | refine wSkip 7 ?_ | refine wSkipU 7 ?_ | refine wLd 7 ?_ | (refine tr_guard (t := 7) rfl (fun hb => ?_) (fun hb => ?_) <;> (try simp only [kk] at hb) <;> first | refine wSkip 7 ?_ | refine wSkipU 7 ?_ | refine wLd 7 ?_))
      all_goals (first | refine wSkip 8 ?_ | refine wSkipU 8 ?_ | refine wBi 8 ?_ | (refine tr_guard (t := 7) rfl (fun hb => ?_) (fun hb => ?_) <;> (try simp only [kk] at hb) <;> first | refine wSkip 8 ?_ | refine wSkipU 8 ?_ | refine wBi 8 ?_))
      all_goals (first | refine wSkip 9 ?_ | refine wSkipU 9 ?_ | refine wCm 9 ?_ | (refine tr_guard (t := 7) rfl (fun hb => ?_) (fun hb => ?_) <;> (try simp only [kk] at hb) <;> first | refine wSkip 9 ?_ | refine wSkipU 9 ?_ | refine wCm 9 ?_))
      all_goals refine rPk 10 ?_
      all_goals refine rDone ?_
      all_goals (repeat' (first | (refine iBu ?_; refine tl_y (y_buildN rfl) rfl rfl ?_) | (refine i_op ?_; first | (refine i_qq ?_; refine qQ ?_) | refine qEf ?_) | refine tl_nil ?_ | (refine i_tc ?_; refine qTc ?_) | (refine i_te ?_; refine qTe ?_) | intro _))
      all_goals rw [em]
      all_goals refine tc_any (Stays _ _ ([blkC b P x S, intC nb n, [(mb, .cells ⟨x.marks.map u64c ++ ms⟩ 24 (0, 0))]])) (stays_of (hT := tk) (Hp.le_refl _)) ?_
      all_goals refine rMv 0 ?_
      all_goals refine rNc 1 ?_
      all_goals refine rFa 2 ?_
      all_goals refine rLd 3 ?_
      all_goals refine rLd 4 ?_
      all_goals refine rSb 5 ?_
      all_goals refine rIa 6 ?_
      all_goals refine rLd 7 ?_
      all_goals (refine rStep (i := 8) ?_; ((try refine qWant ?_); (first | (refine qEf ?_; try intro _)) <;> ((try simp only [kM, kN, kO]); refine tl_nil ?_; refine rNext ?_)))
      all_goals refine rDone ?_
      all_goals (repeat' (first | (refine iBu ?_; refine tl_y (y_buildN rfl) rfl rfl ?_) | (refine i_op ?_; first | (refine i_qq ?_; refine qQ ?_) | refine qEf ?_) | refine tl_nil ?_ | (refine i_tc ?_; refine qTc ?_) | (refine i_te ?_; refine qTe ?_) | intro _))
      all_goals rw [← em]
      all_goals exact qE (L' := blkC b P x S :: stkC x ss :: mrkC x ms :: [intC nb n, u64C mb0 (x.marks.getD (n - 1).toNat 0)]) ⟨rfl, rfl, .inr ⟨by trivial, x, ss, ms, rfl, hX, rfl⟩⟩
theorem cut1_spec (ρ : Hp) (nb : Nat) (n : Int) (hnb : i64in n) (b o : Nat) (P : List Value) (x : Tx) (S ss ms : List Value) (hP : P.length = o) (hX : OwnX x ss ms) (hx : TxG x.p) :
    Spec Tryz.prog 138 [.pointer (some ⟨b, o, none⟩), .pointer (some ⟨nb, 0, none⟩)] ρ (blkC b P x S :: stkC x ss :: mrkC x ms :: [intC nb n]) (AskR (cutF n) (cutG n) (fun _ => [intC nb n]) b P x S ρ) := by
  have hg4 : (P ++ txQ x S)[o + 4]? = some (.int .u64 x.undo) := q_get hP rfl
  have hg6 : (P ++ txQ x S)[o + 6]? = some (.slice x.mv.a x.mv.n x.mv.c) := q_get hP rfl
  have hml : x.marks.length ≤ 8 := hx.ml
  have hnn := hX.m.nn.1
  unfold AskR
  have hwF : cutF n x.p = if n < 1 ∨ (x.marks.length : Int) < n then 4 else if x.marks.getD (n - 1).toNat 0 ≠ x.undo then 2 else 0 := rfl
  rw [hwF]
  refine spec_enter Tryz.func138 rfl rfl rfl fun u R => ?_
  simp only [argsE, List.cons_append, List.nil_append]
  by_cases h1 : n < 1
  · simp only [if_pos (show n < 1 ∨ (x.marks.length : Int) < n from .inl h1)]
    repeat' (first | (refine iBu ?_; refine tl_y (y_buildN rfl) rfl rfl ?_) | (refine i_op ?_; first | (refine i_qq ?_; refine qQ ?_) | refine qEf ?_) | refine tl_nil ?_ | (refine i_tc ?_; refine qTc ?_) | (refine i_te ?_; refine qTe ?_) | intro _)
    refine tc_any (Stays _ _ ([blkC b P x S, intC nb n])) (stays_of (hT := tk) (Hp.le_refl _)) ?_
    all_goals refine rLd 0 ?_
    all_goals refine rFull ?_
    all_goals refine rCm 1 ?_
    all_goals refine rMv 2 ?_
    all_goals (first | refine wSkip 3 ?_ | refine wSkipU 3 ?_ | refine wLd 3 ?_ | (refine tr_guard (t := 6) rfl (fun hb => ?_) (fun hb => ?_) <;> (try simp only [kk] at hb) <;> first | refine wSkip 3 ?_ | refine wSkipU 3 ?_ | refine wLd 3 ?_))
    all_goals (first | refine wSkip 4 ?_ | refine wSkipU 4 ?_ | refine wMv 4 ?_ | (refine tr_guard (t := 6) rfl (fun hb => ?_) (fun hb => ?_) <;> (try simp only [kk] at hb) <;> first | refine wSkip 4 ?_ | refine wSkipU 4 ?_ | refine wMv 4 ?_))
    all_goals (first | refine wSkip 5 ?_ | refine wSkipU 5 ?_ | refine wNc 5 ?_ | (refine tr_guard (t := 6) rfl (fun hb => ?_) (fun hb => ?_) <;> (try simp only [kk] at hb) <;> first | refine wSkip 5 ?_ | refine wSkipU 5 ?_ | refine wNc 5 ?_))
    all_goals (first | refine wSkip 6 ?_ | refine wSkipU 6 ?_ | refine wFa 6 ?_ | (refine tr_guard (t := 6) rfl (fun hb => ?_) (fun hb => ?_) <;> (try simp only [kk] at hb) <;> first | refine wSkip 6 ?_ | refine wSkipU 6 ?_ | refine wFa 6 ?_))
    all_goals (first | refine wSkip 7 ?_ | refine wSkipU 7 ?_ | refine wLd 7 ?_ | (refine tr_guard (t := 6) rfl (fun hb => ?_) (fun hb => ?_) <;> (try simp only [kk] at hb) <;> first | refine wSkip 7 ?_ | refine wSkipU 7 ?_ | refine wLd 7 ?_))
    all_goals (first | refine wSkip 8 ?_ | refine wSkipU 8 ?_ | refine wBi 8 ?_ | (refine tr_guard (t := 6) rfl (fun hb => ?_) (fun hb => ?_) <;> (try simp only [kk] at hb) <;> first | refine wSkip 8 ?_ | refine wSkipU 8 ?_ | refine wBi 8 ?_))
    all_goals (first | refine wSkip 9 ?_ | refine wSkipU 9 ?_ | refine wCm 9 ?_ | (refine tr_guard (t := 6) rfl (fun hb => ?_) (fun hb => ?_) <;> (try simp only [kk] at hb) <;> first | refine wSkip 9 ?_ | refine wSkipU 9 ?_ | refine wCm 9 ?_))
    all_goals refine rPk 10 ?_
    all_goals refine rDone ?_
    all_goals (repeat' (first | (refine iBu ?_; refine tl_y (y_buildN rfl) rfl rfl ?_) | (refine i_op ?_; first | (refine i_qq ?_; refine qQ ?_) | refine qEf ?_) | refine tl_nil ?_ | (refine i_tc ?_; refine qTc ?_) | (refine i_te ?_; refine qTe ?_) | intro _))
    all_goals exact qE (L' := [] ++ [intC nb n]) ⟨rfl, rfl, .inl ⟨by decide, [], rfl⟩⟩
  · by_cases h2 : (x.marks.length : Int) < n
    · simp only [if_pos (show n < 1 ∨ (x.marks.length : Int) < n from .inr h2)]
      repeat' (first | (refine iBu ?_; refine tl_y (y_buildN rfl) rfl rfl ?_) | (refine i_op ?_; first | (refine i_qq ?_; refine qQ ?_) | refine qEf ?_) | refine tl_nil ?_ | (refine i_tc ?_; refine qTc ?_) | (refine i_te ?_; refine qTe ?_) | intro _)
      refine tc_any (Stays _ _ ([blkC b P x S, intC nb n])) (stays_of (hT := tk) (Hp.le_refl _)) ?_
      all_goals refine rLd 0 ?_
      all_goals refine rFull ?_
      all_goals refine rCm 1 ?_
      all_goals refine rMv 2 ?_
      all_goals (first | refine wSkip 3 ?_ | refine wSkipU 3 ?_ | refine wLd 3 ?_ | (refine tr_guard (t := 6) rfl (fun hb => ?_) (fun hb => ?_) <;> (try simp only [kk] at hb) <;> first | refine wSkip 3 ?_ | refine wSkipU 3 ?_ | refine wLd 3 ?_))
      all_goals (first | refine wSkip 4 ?_ | refine wSkipU 4 ?_ | refine wMv 4 ?_ | (refine tr_guard (t := 6) rfl (fun hb => ?_) (fun hb => ?_) <;> (try simp only [kk] at hb) <;> first | refine wSkip 4 ?_ | refine wSkipU 4 ?_ | refine wMv 4 ?_))
      all_goals (first | refine wSkip 5 ?_ | refine wSkipU 5 ?_ | refine wNc 5 ?_ | (refine tr_guard (t := 6) rfl (fun hb => ?_) (fun hb => ?_) <;> (try simp only [kk] at hb) <;> first | refine wSkip 5 ?_ | refine wSkipU 5 ?_ | refine wNc 5 ?_))
      all_goals (first | refine wSkip 6 ?_ | refine wSkipU 6 ?_ | refine wFa 6 ?_ | (refine tr_guard (t := 6) rfl (fun hb => ?_) (fun hb => ?_) <;> (try simp only [kk] at hb) <;> first | refine wSkip 6 ?_ | refine wSkipU 6 ?_ | refine wFa 6 ?_))
      all_goals (first | refine wSkip 7 ?_ | refine wSkipU 7 ?_ | refine wLd 7 ?_ | (refine tr_guard (t := 6) rfl (fun hb => ?_) (fun hb => ?_) <;> (try simp only [kk] at hb) <;> first | refine wSkip 7 ?_ | refine wSkipU 7 ?_ | refine wLd 7 ?_))
      all_goals (first | refine wSkip 8 ?_ | refine wSkipU 8 ?_ | refine wBi 8 ?_ | (refine tr_guard (t := 6) rfl (fun hb => ?_) (fun hb => ?_) <;> (try simp only [kk] at hb) <;> first | refine wSkip 8 ?_ | refine wSkipU 8 ?_ | refine wBi 8 ?_))
      all_goals (first | refine wSkip 9 ?_ | refine wSkipU 9 ?_ | refine wCm 9 ?_ | (refine tr_guard (t := 6) rfl (fun hb => ?_) (fun hb => ?_) <;> (try simp only [kk] at hb) <;> first | refine wSkip 9 ?_ | refine wSkipU 9 ?_ | refine wCm 9 ?_))
      all_goals refine rPk 10 ?_
      all_goals refine rDone ?_
      all_goals (repeat' (first | (refine iBu ?_; refine tl_y (y_buildN rfl) rfl rfl ?_) | (refine i_op ?_; first | (refine i_qq ?_; refine qQ ?_) | refine qEf ?_) | refine tl_nil ?_ | (refine i_tc ?_; refine qTc ?_) | (refine i_te ?_; refine qTe ?_) | intro _))
      all_goals exact qE (L' := [] ++ [intC nb n]) ⟨rfl, rfl, .inl ⟨by decide, [], rfl⟩⟩
    · simp only [if_neg (show ¬ (n < 1 ∨ (x.marks.length : Int) < n) by omega)]
      obtain ⟨mb, c, emv, em, hcell⟩ := mark_cell hX (show 1 ≤ n by omega) (show n ≤ (x.marks.length : Int) by omega)
      rw [emv] at hg6 hnn
      dsimp only at hg6 hnn
      have hmc : x.marks.length ≤ c := by have := hX.m.nn.2; rw [emv] at this; exact this
      by_cases h3 : x.marks.getD (n - 1).toNat 0 = x.undo
      · simp only [if_neg (show ¬ (x.marks.getD (n - 1).toNat 0 ≠ x.undo) from fun e => e h3)]
        rw [h3] at hcell
        have hsl : (x.marks.take n.toNat).length = n.toNat := by rw [List.length_take]; omega
        have hown : OwnS (.slice (some ⟨mb, 0, none⟩) n.toNat c) (x.marks.take n.toNat).length ((x.marks.take n.toNat).map u64c) ((x.marks.drop n.toNat).map u64c ++ ms) 1 := by
          rcases hX.m.out with ⟨_, q, _, _⟩ | ⟨b2, c2, q0, q1, q2, q3⟩
          · omega
          · rw [emv] at q0
            cases q0
            simp only [List.length_map] at q1 q2
            exact ⟨.inr ⟨mb, c, by rw [hsl], by simp, by simp only [List.length_append, List.length_map, List.length_take, List.length_drop]; omega, by omega⟩⟩
        have hcl : ownC (.slice (some ⟨mb, 0, none⟩) n.toNat c) ((x.marks.take n.toNat).map u64c) ((x.marks.drop n.toNat).map u64c ++ ms) 24 = [(mb, .cells ⟨x.marks.map u64c ++ ms⟩ 24 (0, 0))] := by
          show [(mb, Obj.cells ⟨(x.marks.take n.toNat).map u64c ++ ((x.marks.drop n.toNat).map u64c ++ ms)⟩ 24 (0, 0))] = _
          rw [← List.append_assoc, ← List.map_append, List.take_append_drop]
        repeat' (first | (refine iBu ?_; refine tl_y (y_buildN rfl) rfl rfl ?_) | (refine i_op ?_; first | (refine i_qq ?_; refine qQ ?_) | refine qEf ?_) | refine tl_nil ?_ | (refine i_tc ?_; refine qTc ?_) | (refine i_te ?_; refine qTe ?_) | intro _)
        refine tc_any (Stays _ _ ([blkC b P x S, intC nb n])) (stays_of (hT := tk) (Hp.le_refl _)) ?_
        all_goals refine rLd 0 ?_
        all_goals refine rFull ?_
        all_goals refine rCm 1 ?_
        all_goals refine rMv 2 ?_
        all_goals (first | refine wSkip 3 ?_ | refine wSkipU 3 ?_ | refine wLd 3 ?_ | (refine tr_guard (t := 6) rfl (fun hb => ?_) (fun hb => ?_) <;> (try simp only [kk] at hb) <;> first | refine wSkip 3 ?_ | refine wSkipU 3 ?_ | refine wLd 3 ?_))
        all_goals (first | refine wSkip 4 ?_ | refine wSkipU 4 ?_ | refine wMv 4 ?_ | (refine tr_guard (t := 6) rfl (fun hb => ?_) (fun hb => ?_) <;> (try simp only [kk] at hb) <;> first | refine wSkip 4 ?_ | refine wSkipU 4 ?_ | refine wMv 4 ?_))
        all_goals (first | refine wSkip 5 ?_ | refine wSkipU 5 ?_ | refine wNc 5 ?_ | (refine tr_guard (t := 6) rfl (fun hb => ?_) (fun hb => ?_) <;> (try simp only [kk] at hb) <;> first | refine wSkip 5 ?_ | refine wSkipU 5 ?_ | refine wNc 5 ?_))
        all_goals (first | refine wSkip 6 ?_ | refine wSkipU 6 ?_ | refine wFa 6 ?_ | (refine tr_guard (t := 6) rfl (fun hb => ?_) (fun hb => ?_) <;> (try simp only [kk] at hb) <;> first | refine wSkip 6 ?_ | refine wSkipU 6 ?_ | refine wFa 6 ?_))
        all_goals (first | refine wSkip 7 ?_ | refine wSkipU 7 ?_ | refine wLd 7 ?_ | (refine tr_guard (t := 6) rfl (fun hb => ?_) (fun hb => ?_) <;> (try simp only [kk] at hb) <;> first | refine wSkip 7 ?_ | refine wSkipU 7 ?_ | refine wLd 7 ?_))
        all_goals (first | refine wSkip 8 ?_ | refine wSkipU 8 ?_ | refine wBi 8 ?_ | (refine tr_guard (t := 6) rfl (fun hb => ?_) (fun hb => ?_) <;> (try simp only [kk] at hb) <;> first | refine wSkip 8 ?_ | refine wSkipU 8 ?_ | refine wBi 8 ?_))
        all_goals (first | refine wSkip 9 ?_ | refine wSkipU 9 ?_ | refine wCm 9 ?_ | (refine tr_guard (t := 6) rfl (fun hb => ?_) (fun hb => ?_) <;> (try simp only [kk] at hb) <;> first | refine wSkip 9 ?_ | refine wSkipU 9 ?_ | refine wCm 9 ?_))
        all_goals refine rPk 10 ?_
        all_goals refine rDone ?_
        all_goals (repeat' (first | (refine iBu ?_; refine tl_y (y_buildN rfl) rfl rfl ?_) | (refine i_op ?_; first | (refine i_qq ?_; refine qQ ?_) | refine qEf ?_) | refine tl_nil ?_ | (refine i_tc ?_; refine qTc ?_) | (refine i_te ?_; refine qTe ?_) | intro _))
        all_goals rw [em]
        all_goals refine tc_any (Stays _ _ ([blkC b P x S, intC nb n, [(mb, .cells ⟨x.marks.map u64c ++ ms⟩ 24 (0, 0))]])) (stays_of (hT := tk) (Hp.le_refl _)) ?_
        all_goals refine rMv 0 ?_
        all_goals refine rFull ?_
        all_goals refine rNc 1 ?_
        all_goals refine rFa 2 ?_
        all_goals refine rLd 3 ?_
        all_goals refine rLd 4 ?_
        all_goals refine rSb 5 ?_
        all_goals refine rIa 6 ?_
        all_goals refine rLd 7 ?_
        all_goals refine rMv 8 ?_
        all_goals refine rNc 9 ?_
        all_goals refine rFa 10 ?_
        all_goals refine rLd 11 ?_
        all_goals refine rCm 12 ?_
        all_goals refine rDone ?_
        all_goals (repeat' (first | (refine iBu ?_; refine tl_y (y_buildN rfl) rfl rfl ?_) | (refine i_op ?_; first | (refine i_qq ?_; refine qQ ?_) | refine qEf ?_) | refine tl_nil ?_ | (refine i_tc ?_; refine qTc ?_) | (refine i_te ?_; refine qTe ?_) | intro _))
        all_goals refine tc_phase 7 (Stays _ _ ([blkC b P x S, intC nb n])) (by decide +kernel) (stays_of (hT := tk) (Hp.le_refl _)) ?_
        all_goals simp only [List.take_succ_cons, List.take_zero]
        all_goals refine rMv 0 ?_
        all_goals refine rMv 1 ?_
        all_goals refine rNc 2 ?_
        all_goals refine rFa 3 ?_
        all_goals refine rLd 4 ?_
        all_goals refine rLd 5 ?_
        all_goals refine rSl 6 ?_
        all_goals refine rDone ?_
        all_goals refine te_phase (fuel := 3) (m := [true, true, true, true, true, true, true, false, false, false]) (Stays _ _ ([])) rfl rfl (stays_of (hT := tk) (Hp.le_refl _)) ?_
        all_goals refine rNc 7 ?_
        all_goals refine rFa 8 ?_
        all_goals (refine rStep (i := 9) ?_; ((try refine qWant ?_); (first | (refine tl_store_q (o := o) (P := P) rfl rfl hP rfl ?_) | (refine qEf ?_; try intro _)) <;> ((try simp only [kM, kN, kO]); refine tl_nil ?_; refine rNext ?_)))
        all_goals refine rDone ?_
        all_goals (repeat' (first | (refine iBu ?_; refine tl_y (y_buildN rfl) rfl rfl ?_) | (refine i_op ?_; first | (refine i_qq ?_; refine qQ ?_) | refine qEf ?_) | refine tl_nil ?_ | (refine i_tc ?_; refine qTc ?_) | (refine i_te ?_; refine qTe ?_) | intro _))
        all_goals rw [← hcl]
        all_goals exact qE (L' := blkC b P { x with marks := x.marks.take n.toNat, mv := ⟨some ⟨mb, 0, none⟩, n.toNat, c⟩ } S :: stkC x ss :: mrkC { x with marks := x.marks.take n.toNat, mv := ⟨some ⟨mb, 0, none⟩, n.toNat, c⟩ } ((x.marks.drop n.toNat).map u64c ++ ms) :: [intC nb n]) ⟨rfl, rfl, .inr ⟨by trivial, { x with marks := x.marks.take n.toNat, mv := ⟨some ⟨mb, 0, none⟩, n.toNat, c⟩ }, ss, (x.marks.drop n.toNat).map u64c ++ ms, rfl, ⟨hX.s, hown⟩, rfl⟩⟩
      · simp only [if_pos (show x.marks.getD (n - 1).toNat 0 ≠ x.undo from h3)]
        generalize x.marks.getD (n - 1).toNat 0 = y at *
        repeat' (first | (refine iBu ?_; refine tl_y (y_buildN rfl) rfl rfl ?_) | (refine i_op ?_; first | (refine i_qq ?_; refine qQ ?_) | refine qEf ?_) | refine tl_nil ?_ | (refine i_tc ?_; refine qTc ?_) | (refine i_te ?_; refine qTe ?_) | intro _)
        refine tc_any (Stays _ _ ([blkC b P x S, intC nb n])) (stays_of (hT := tk) (Hp.le_refl _)) ?_
        all_goals refine rLd 0 ?_
        all_goals refine rFull ?_
        all_goals refine rCm 1 ?_
        all_goals refine rMv 2 ?_
        all_goals (first | refine wSkip 3 ?_ | refine wSkipU 3 ?_ | refine wLd 3 ?_ | (refine tr_guard (t := 6) rfl (fun hb => ?_) (fun hb => ?_) <;> (try simp only [kk] at hb) <;> first | refine wSkip 3 ?_ | refine wSkipU 3 ?_ | refine wLd 3 ?_))
        all_goals (first | refine wSkip 4 ?_ | refine wSkipU 4 ?_ | refine wMv 4 ?_ | (refine tr_guard (t := 6) rfl (fun hb => ?_) (fun hb => ?_) <;> (try simp only [kk] at hb) <;> first | refine wSkip 4 ?_ | refine wSkipU 4 ?_ | refine wMv 4 ?_))
        all_goals (first | refine wSkip 5 ?_ | refine wSkipU 5 ?_ | refine wNc 5 ?_ | (refine tr_guard (t := 6) rfl (fun hb => ?_) (fun hb => ?_) <;> (try simp only [kk] at hb) <;> first | refine wSkip 5 ?_ | refine wSkipU 5 ?_ | refine wNc 5 ?_))
        all_goals (first | refine wSkip 6 ?_ | refine wSkipU 6 ?_ | refine wFa 6 ?_ | (refine tr_guard (t := 6) rfl (fun hb => ?_) (fun hb => ?_) <;> (try simp only [kk] at hb) <;> first | refine wSkip 6 ?_ | refine wSkipU 6 ?_ | refine wFa 6 ?_))
        all_goals (first | refine wSkip 7 ?_ | refine wSkipU 7 ?_ | refine wLd 7 ?_ | (refine tr_guard (t := 6) rfl (fun hb => ?_) (fun hb => ?_) <;> (try simp only [kk] at hb) <;> first | refine wSkip 7 ?_ | refine wSkipU 7 ?_ | refine wLd 7 ?_))
        all_goals (first | refine wSkip 8 ?_ | refine wSkipU 8 ?_ | refine wBi 8 ?_ | (refine tr_guard (t := 6) rfl (fun hb => ?_) (fun hb => ?_) <;> (try simp only [kk] at hb) <;> first | refine wSkip 8 ?_ | refine wSkipU 8 ?_ | refine wBi 8 ?_))
        all_goals (first | refine wSkip 9 ?_ | refine wSkipU 9 ?_ | refine wCm 9 ?_ | (refine tr_guard (t := 6) rfl (fun hb => ?_) (fun hb => ?_) <;> (try simp only [kk] at hb) <;> first | refine wSkip 9 ?_ | refine wSkipU 9 ?_ | refine wCm 9 ?_))
        all_goals refine rPk 10 ?_
        all_goals refine rDone ?_
        all_goals (repeat' (first | (refine iBu ?_; refine tl_y (y_buildN rfl) rfl rfl ?_) | (refine i_op ?_; first | (refine i_qq ?_; refine qQ ?_) | refine qEf ?_) | refine tl_nil ?_ | (refine i_tc ?_; refine qTc ?_) | (refine i_te ?_; refine qTe ?_) | intro _))
        all_goals rw [em]
        all_goals refine tc_any (Stays _ _ ([blkC b P x S, intC nb n, [(mb, .cells ⟨x.marks.map u64c ++ ms⟩ 24 (0, 0))]])) (stays_of (hT := tk) (Hp.le_refl _)) ?_
        all_goals refine rMv 0 ?_
        all_goals refine rFull ?_
        all_goals refine rNc 1 ?_
        all_goals refine rFa 2 ?_
        all_goals refine rLd 3 ?_
        all_goals refine rLd 4 ?_
        all_goals refine rSb 5 ?_
        all_goals refine rIa 6 ?_
        all_goals refine rLd 7 ?_
        all_goals refine rMv 8 ?_
        all_goals refine rNc 9 ?_
        all_goals refine rFa 10 ?_
        all_goals refine rLd 11 ?_
        all_goals refine rCm 12 ?_
        all_goals refine rDone ?_
        all_goals (repeat' (first | (refine iBu ?_; refine tl_y (y_buildN rfl) rfl rfl ?_) | (refine i_op ?_; first | (refine i_qq ?_; refine qQ ?_) | refine qEf ?_) | refine tl_nil ?_ | (refine i_tc ?_; refine qTc ?_) | (refine i_te ?_; refine qTe ?_) | intro _))
        all_goals exact qE (L' := [] ++ [intC nb n]) ⟨rfl, rfl, .inl ⟨by decide, [], rfl⟩⟩
end Go.Proofs.E

namespace Go.Proofs.E
open Go
set_option linter.unusedVariables false
set_option linter.unusedSimpArgs false
set_option linter.unusedSectionVars false
set_option maxRecDepth 4000
set_option maxHeartbeats 1000000
attribute [local irreducible] Yl TL TC TE Spec YSpec R1 Hp.le EnvLe TS TR YS Stays
-- BN
def marksN (p : RosP) (num : Int) : Int := match findT p num with | some t => ((t.marks.length + 1 : Nat) : Int) | none => 0
def whereV (p : RosP) (num n : Int) : Nat := match findT p num with | some t => whereN n t | none => 0
theorem asksX_mark {nb : Nat} (p : RosP) (num : Int) : ∃ k : Int, asksX [intC nb 0] (markX nb) p num = [intC nb k] ∧ k = if asksE markF p num = 0 then marksN p num else 0 := by
  unfold asksX asksE askX askE marksN markX markF
  cases rosOkP p
  · exact ⟨0, rfl, rfl⟩
  · simp only [if_true]
    cases findT p num with
    | none => exact ⟨0, rfl, rfl⟩
    | some t =>
      dsimp only
      by_cases h : t.state = 1
      · simp only [if_pos h]
        by_cases h8 : 8 ≤ t.marks.length
        · simp only [if_pos h8]; exact ⟨_, rfl, rfl⟩
        · simp only [if_neg h8]; exact ⟨_, rfl, rfl⟩
      · simp only [if_neg h]; exact ⟨0, rfl, rfl⟩
theorem asksX_where {nb mb : Nat} {n : Int} (p : RosP) (num : Int) : ∃ k : Nat, asksX [intC nb n, u64C mb 0] (whereX nb mb n) p num = [intC nb n, u64C mb k] ∧ k = if asksE (whereF n) p num = 0 then whereV p num n else 0 := by
  unfold asksX asksE askX askE whereV whereX
  cases rosOkP p
  · exact ⟨0, rfl, rfl⟩
  · simp only [if_true]
    cases findT p num with
    | none => exact ⟨0, rfl, rfl⟩
    | some t =>
      dsimp only
      by_cases h : t.state = 1
      · simp only [if_pos h]; exact ⟨_, rfl, rfl⟩
      · simp only [if_neg h]; exact ⟨0, rfl, rfl⟩
theorem asksX_cut {nb : Nat} {n : Int} (p : RosP) (num : Int) : asksX [intC nb n] (fun _ => [intC nb n]) p num = [intC nb n] := by
  unfold asksX askX
  cases rosOkP p
  · rfl
  · simp only [if_true]
    cases findT p num with
    | none => rfl
    | some t => dsimp only; split <;> rfl
def markE (p : RosP) (num : Int) : Int := asksE markF p num
def markP' (p : RosP) (num : Int) : RosP := asksP markF markG p num
def markK (p : RosP) (num : Int) : Int := if markE p num = 0 then marksN p num else 0
theorem mark_spec (ρ : Hp) (v : SV) (ro : Ros) (h : RosIn ρ v ro) (num : Int) : Spec Tryz.prog 57 [.agg ⟨rosV v ro⟩, .int .i64 num] ρ []
    (fun z ρ' L' => ρ.le ρ' ∧ ((markE ro.p num ≠ 0 ∧ z = .tuple ⟨[.agg ⟨[.int .i64 0, .slice none 0 0]⟩, .int .i64 0, .int .i64 (markE ro.p num)]⟩ ∧ L' = []) ∨
      (markE ro.p num = 0 ∧ ∃ vv sp os, OwnR vv sp os (markP' ro.p num).txns ∧ z = .tuple ⟨[.agg ⟨[.int .i64 (markP' ro.p num).next, vv]⟩, .int .i64 (marksN ro.p num), .int .i64 0]⟩ ∧ L' = ownRC vv sp os))) := by
  have ha := fun nb => asks_spec ρ v ro h num 137 [.pointer (some ⟨nb, 0, none⟩)] [intC nb 0] (markX nb) markF markG (fun _ => rfl) (fun ρ1 _ b o P x S ss ms hP hX hx _ => mark1_spec ρ1 nb b o P x S ss ms hP hX hx)
  refine spec_enter Tryz.func57 rfl rfl rfl fun u R => ?_
  simp only [argsE, List.cons_append, List.nil_append]
  have hx := fun nb => asksX_mark (nb := nb) ro.p num
  unfold markE markP'
  generalize asksP markF markG ro.p num = pa at *
  generalize asksE markF ro.p num = e at *
  repeat' (first | (refine iBu ?_; refine tl_y (y_buildN rfl) rfl rfl ?_) | (refine i_op ?_; first | (refine i_qq ?_; refine qQ ?_) | refine qEf ?_) | refine tl_nil ?_ | (refine i_tc ?_; refine qTc ?_) | (refine i_te ?_; refine qTe ?_) | intro _)
  rename_i nb
  obtain ⟨k, hx1, hx2⟩ := hx nb
  have ha1 := ha nb
  rw [hx1] at ha1
  refine tl_is (.func 134) ?_
  refine qC rfl rfl ha1 ?_
  rintro z ρ3 L3 hle3 ⟨hl1, ⟨he, rfl, rfl⟩ | ⟨he, vv, sp, os, hR, rfl, rfl⟩⟩ <;> simp only [List.cons_append, List.nil_append]
  · rw [if_neg he] at hx2
    subst hx2
    repeat' (first | (refine iBu ?_; refine tl_y (y_buildN rfl) rfl rfl ?_) | (refine i_op ?_; first | (refine i_qq ?_; refine qQ ?_) | refine qEf ?_) | refine tl_nil ?_ | (refine i_tc ?_; refine qTc ?_) | (refine i_te ?_; refine qTe ?_) | intro _)
    refine tc_any (Stays _ _ _) stays_refl ?_
    all_goals refine rLd 0 ?_
    all_goals refine rLd 1 ?_
    all_goals refine rMv 2 ?_
    all_goals (refine rStep (i := 3) ?_; ((try refine qWant ?_); (first | (refine qEf ?_; try intro _)) <;> ((try simp only [kM, kN, kO]); refine tl_nil ?_; refine rNext ?_)))
    all_goals refine rFull ?_
    all_goals refine rAs 4 ?_
    all_goals refine rAs 5 ?_
    all_goals refine rDone ?_
    all_goals (repeat' (first | (refine iBu ?_; refine tl_y (y_buildN rfl) rfl rfl ?_) | (refine i_op ?_; first | (refine i_qq ?_; refine qQ ?_) | refine qEf ?_) | refine tl_nil ?_ | (refine i_tc ?_; refine qTc ?_) | (refine i_te ?_; refine qTe ?_) | intro _))
    all_goals exact qE (L' := []) ⟨hl1, .inl ⟨he, rfl, rfl⟩⟩
  · subst he
    rw [if_pos rfl] at hx2
    subst hx2
    obtain ⟨va, vc, rfl, _⟩ := hR.own.slice
    repeat' (first | (refine iBu ?_; refine tl_y (y_buildN rfl) rfl rfl ?_) | (refine i_op ?_; first | (refine i_qq ?_; refine qQ ?_) | refine qEf ?_) | refine tl_nil ?_ | (refine i_tc ?_; refine qTc ?_) | (refine i_te ?_; refine qTe ?_) | intro _)
    refine tc_any (Stays _ _ ([[(_, .cells ⟨[.int .i64 pa.next, .slice va os.length vc]⟩ 34 (0, 0))], intC nb (marksN ro.p num)])) (stays_of (hT := tk) (Hp.le_refl _)) ?_
    all_goals refine rLd 0 ?_
    all_goals refine rLd 1 ?_
    all_goals refine rMv 2 ?_
    all_goals (refine rStep (i := 3) ?_; ((try refine qWant ?_); (first | (refine qEf ?_; try intro _)) <;> ((try simp only [kM, kN, kO]); refine tl_nil ?_; refine rNext ?_)))
    all_goals refine rFull ?_
    all_goals refine rAs 4 ?_
    all_goals refine rAs 5 ?_
    all_goals refine rDone ?_
    all_goals (repeat' (first | (refine iBu ?_; refine tl_y (y_buildN rfl) rfl rfl ?_) | (refine i_op ?_; first | (refine i_qq ?_; refine qQ ?_) | refine qEf ?_) | refine tl_nil ?_ | (refine i_tc ?_; refine qTc ?_) | (refine i_te ?_; refine qTe ?_) | intro _))
    all_goals exact qE (L' := ownRC _ sp os) ⟨hl1, .inr ⟨by trivial, _, sp, os, hR, rfl, rfl⟩⟩
def whereE (p : RosP) (num n : Int) : Int := asksE (whereF n) p num
theorem where_spec (ρ : Hp) (v : SV) (ro : Ros) (h : RosIn ρ v ro) (num n : Int) (hn : i64in n) : Spec Tryz.prog 55 [.agg ⟨rosV v ro⟩, .int .i64 num, .int .i64 n] ρ []
    (fun z ρ' L' => ρ.le ρ' ∧ z = .tuple ⟨[.int .u64 (if whereE ro.p num n = 0 then whereV ro.p num n else 0 : Nat), .int .i64 (whereE ro.p num n)]⟩ ∧ L' = []) := by
  have ha := fun nb mb => asks_spec ρ v ro h num 135 [.pointer (some ⟨nb, 0, none⟩), .pointer (some ⟨mb, 0, none⟩)] [intC nb n, u64C mb 0] (whereX nb mb n) (whereF n) id (fun _ => rfl) (fun ρ1 _ b o P x S ss ms hP hX hx _ => where1_spec ρ1 nb mb n hn b o P x S ss ms hP hX hx)
  refine spec_enter Tryz.func55 rfl rfl rfl fun u R => ?_
  simp only [argsE, List.cons_append, List.nil_append]
  have hx := fun nb mb => asksX_where (nb := nb) (mb := mb) (n := n) ro.p num
  unfold whereE
  generalize asksP (whereF n) id ro.p num = pa at *
  generalize asksE (whereF n) ro.p num = e at *
  generalize whereV ro.p num n = wv at *
  repeat' (first | (refine iBu ?_; refine tl_y (y_buildN rfl) rfl rfl ?_) | (refine i_op ?_; first | (refine i_qq ?_; refine qQ ?_) | refine qEf ?_) | refine tl_nil ?_ | (refine i_tc ?_; refine qTc ?_) | (refine i_te ?_; refine qTe ?_) | intro _)
  rename_i nb mb
  obtain ⟨k, hx1, hx2⟩ := hx nb mb
  have ha1 := ha nb mb
  rw [hx1] at ha1
  refine tl_is (.func 134) ?_
  refine qC rfl rfl ha1 ?_
  rintro z ρ3 L3 hle3 ⟨hl1, ⟨he, rfl, rfl⟩ | ⟨he, vv, sp, os, hR, rfl, rfl⟩⟩ <;> simp only [List.cons_append, List.nil_append]
  · repeat' (first | (refine iBu ?_; refine tl_y (y_buildN rfl) rfl rfl ?_) | (refine i_op ?_; first | (refine i_qq ?_; refine qQ ?_) | refine qEf ?_) | refine tl_nil ?_ | (refine i_tc ?_; refine qTc ?_) | (refine i_te ?_; refine qTe ?_) | intro _)
    rw [← hx2]
    exact qE (L' := []) ⟨hl1, rfl, rfl⟩
  · subst he
    obtain ⟨va, vc, rfl, _⟩ := hR.own.slice
    repeat' (first | (refine iBu ?_; refine tl_y (y_buildN rfl) rfl rfl ?_) | (refine i_op ?_; first | (refine i_qq ?_; refine qQ ?_) | refine qEf ?_) | refine tl_nil ?_ | (refine i_tc ?_; refine qTc ?_) | (refine i_te ?_; refine qTe ?_) | intro _)
    rw [← hx2]
    exact qE (L' := []) ⟨hl1, rfl, rfl⟩
def cutE (p : RosP) (num n : Int) : Int := asksE (cutF n) p num
def cutP (p : RosP) (num n : Int) : RosP := asksP (cutF n) (cutG n) p num
theorem cutR_spec (ρ : Hp) (v : SV) (ro : Ros) (h : RosIn ρ v ro) (num n : Int) (hn : i64in n) : Spec Tryz.prog 58 [.agg ⟨rosV v ro⟩, .int .i64 num, .int .i64 n] ρ []
    (fun z ρ' L' => ρ.le ρ' ∧ ((cutE ro.p num n ≠ 0 ∧ z = .tuple ⟨[.agg ⟨[.int .i64 0, .slice none 0 0]⟩, .int .i64 (cutE ro.p num n)]⟩ ∧ L' = []) ∨
      (cutE ro.p num n = 0 ∧ ∃ vv sp os, OwnR vv sp os (cutP ro.p num n).txns ∧ z = .tuple ⟨[.agg ⟨[.int .i64 (cutP ro.p num n).next, vv]⟩, .int .i64 0]⟩ ∧ L' = ownRC vv sp os))) := by
  have ha := fun nb => asks_spec ρ v ro h num 138 [.pointer (some ⟨nb, 0, none⟩)] [intC nb n] (fun _ => [intC nb n]) (cutF n) (cutG n) (fun _ => rfl) (fun ρ1 _ b o P x S ss ms hP hX hx _ => cut1_spec ρ1 nb n hn b o P x S ss ms hP hX hx)
  refine spec_enter Tryz.func58 rfl rfl rfl fun u R => ?_
  simp only [argsE, List.cons_append, List.nil_append]
  simp only [asksX_cut] at ha
  unfold cutE cutP
  generalize asksP (cutF n) (cutG n) ro.p num = pa at *
  generalize asksE (cutF n) ro.p num = e at *
  repeat' (first | (refine tl_is (.func 134) ?_; refine qC rfl rfl (ha _) ?_; rintro v ρ' L' hle ⟨hl1, ⟨he, rfl, rfl⟩ | ⟨he, vv, sp, os, hR, rfl, rfl⟩⟩ <;> (try simp only [kM, kN, kO])) | (refine iBu ?_; refine tl_y (y_buildN rfl) rfl rfl ?_) | (refine i_op ?_; first | (refine i_qq ?_; refine qQ ?_) | refine qEf ?_) | refine tl_nil ?_ | (refine i_tc ?_; refine qTc ?_) | (refine i_te ?_; refine qTe ?_) | intro _)
  · repeat' (first | (refine iBu ?_; refine tl_y (y_buildN rfl) rfl rfl ?_) | (refine i_op ?_; first | (refine i_qq ?_; refine qQ ?_) | refine qEf ?_) | refine tl_nil ?_ | (refine i_tc ?_; refine qTc ?_) | (refine i_te ?_; refine qTe ?_) | intro _)
    exact qE (L' := []) ⟨hl1, .inl ⟨he, rfl, rfl⟩⟩
  · subst he
    obtain ⟨va, vc, rfl, _⟩ := hR.own.slice
    repeat' (first | (refine iBu ?_; refine tl_y (y_buildN rfl) rfl rfl ?_) | (refine i_op ?_; first | (refine i_qq ?_; refine qQ ?_) | refine qEf ?_) | refine tl_nil ?_ | (refine i_tc ?_; refine qTc ?_) | (refine i_te ?_; refine qTe ?_) | intro _)
    exact qE (L' := ownRC _ sp os) ⟨hl1, .inr ⟨by trivial, _, sp, os, hR, rfl, rfl⟩⟩
end Go.Proofs.E

namespace Go.Proofs.E
open Go
set_option linter.unusedVariables false
set_option linter.unusedSimpArgs false
set_option linter.unusedSectionVars false
set_option maxRecDepth 4000
set_option maxHeartbeats 1000000
attribute [local irreducible] Yl TL TC TE Spec YSpec R1 Hp.le EnvLe TS TR YS Stays
-- BN
/-! ## what a roster tells -/
def costL (t : TxP) : List Int := 1 :: ((if t.state = 1 then [1] else []) ++ t.stack.map Lf.cost)
def resL (l : List TxP) : List Int := l.flatMap costL
def resN (p : RosP) : Int := (resL p.txns).sum
def leastF : Nat → List TxP → Nat
  | n, [] => n
  | n, t :: r => leastF (if n = 0 ∨ t.first < n then t.first else n) r
def leastP (p : RosP) : Nat := leastF 0 p.txns
theorem costL_len {t : TxP} (h : TxG t) : (costL t).length ≤ 1099511627780 := by
  have := h.sl
  unfold costL
  simp only [List.length_cons, List.length_append, List.length_map]
  split <;> simp <;> omega
theorem costL_in {t : TxP} (h : TxG t) : ∀ x ∈ costL t, 0 ≤ x ∧ x ≤ 400 := fun x hx => by
  unfold costL at hx
  rcases List.mem_cons.1 hx with rfl | hx
  · omega
  · rcases List.mem_append.1 hx with hx | hx
    · split at hx
      · rw [List.mem_singleton] at hx; omega
      · cases hx
    · obtain ⟨s, hs, rfl⟩ := List.mem_map.1 hx
      have := h.st s hs; omega
theorem resL_len : ∀ {l : List TxP}, (∀ t ∈ l, TxG t) → (resL l).length ≤ l.length * 1099511627780
  | [], _ => by simp [resL]
  | t :: r, h => by
    have h1 := costL_len (h t (by simp))
    have h2 := resL_len (l := r) (fun x hx => h x (by simp [hx]))
    have e : resL (t :: r) = costL t ++ resL r := rfl
    rw [e, List.length_append, List.length_cons]; omega
theorem resL_in {l : List TxP} (h : ∀ t ∈ l, TxG t) : ∀ x ∈ resL l, 0 ≤ x ∧ x ≤ 400 := fun x hx => by
  obtain ⟨t, ht, hx⟩ := List.mem_flatMap.1 hx
  exact costL_in (h t ht) x hx
theorem resL_take (l : List TxP) (k : Nat) (h : k < l.length) : resL (l.take (k + 1)) = resL (l.take k) ++ costL l[k] := by
  unfold resL
  rw [List.take_succ_eq_append_getElem h, List.flatMap_append]; simp
theorem sum_bound {l : List Int} (h : ∀ x ∈ l, 0 ≤ x ∧ x ≤ 400) : 0 ≤ l.sum ∧ l.sum ≤ 400 * (l.length : Int) := by
  induction l with
  | nil => simp
  | cons a r ih =>
    have h1 := h a (by simp)
    have h2 := ih (fun x hx => h x (by simp [hx]))
    rw [List.sum_cons, List.length_cons]; omega
theorem sum_take (l : List Int) (k : Nat) (h : k < l.length) : (l.take (k + 1)).sum = (l.take k).sum + l[k] := by
  rw [List.take_succ_eq_append_getElem h, List.sum_append]; simp
theorem rsum_spec (ρ : Hp) (a : Option Addr) (n c : Nat) (l : List Int) (h : SIn ρ iV a n l) (hb : ∀ x ∈ l, 0 ≤ x ∧ x ≤ 400) (hn : n ≤ 10000000000000000) : Spec Tryz.prog 126 [.slice a n c] ρ []
    (fun z ρ' L' => z = .int .i64 l.sum ∧ ρ' = ρ ∧ L' = []) := by
  have hl := h.len
  refine spec_enter Tryz.func126 rfl rfl rfl fun u R => ?_
  simp only [argsE, List.cons_append, List.nil_append]
  repeat' (first | (refine iBu ?_; refine tl_y (y_buildN rfl) rfl rfl ?_) | (refine i_op ?_; first | (refine i_qq ?_; refine qQ ?_) | refine qEf ?_) | refine tl_nil ?_ | (refine i_tc ?_; refine qTc ?_) | (refine i_te ?_; refine qTe ?_) | intro _)
  refine tc_loop_g [(2, _), (6, _), (7, _)] (fun (ζ : (Nat) × (Int)) => [(8, .int .i64 ζ.1), (3, .int .i64 ζ.2)]) (fun (ζ : (Nat) × (Int)) => ρ) (fun (ζ : (Nat) × (Int)) => []) (fun (ζ : (Nat) × (Int)) => ζ.1 ≤ n ∧ ζ.2 = (l.take ζ.1).sum) (fun (ζ : (Nat) × (Int)) => n - ζ.1) ((0, 0)) (⟨Nat.zero_le _, by simp⟩) ev_le ev_le rfl tk ?_
  rintro ⟨k, s⟩ hI
  try simp only [List.cons_append, List.nil_append, List.append_assoc, List.append_eq] at hI ⊢
  try dsimp only at hI ⊢
  obtain ⟨hk, hs⟩ := hI
  by_cases hlt : k < n
  · obtain ⟨b, off, C, T, fr, rfl, hbb, hc⟩ := h.get (show k < l.length by omega)
    have hx := sum_take l k (by omega)
    have hbd := sum_bound (l := l.take k) (fun x hx => hb x (List.mem_of_mem_take hx))
    have hbe := hb _ (List.getElem_mem (show k < l.length by omega))
    rw [List.length_take] at hbd
    generalize l[k]'(by omega) = y at *
    rw [← hs] at hx hbd
    repeat' (first | (refine iBu ?_; refine tl_y (y_buildN rfl) rfl rfl ?_) | (refine i_op ?_; first | (refine i_qq ?_; refine qQ ?_) | refine qEf ?_) | refine tl_nil ?_ | (refine i_tc ?_; refine qTc ?_) | (refine i_te ?_; refine qTe ?_) | intro _)
    refine te_round_g (k + 1, s + y) (⟨hlt, hx.symm⟩) ev_le ev_le rfl tk inferInstance (by first | omega | (dsimp only; omega))
  · rw [List.take_of_length_le (by omega)] at hs
    subst hs
    repeat' (first | (refine iBu ?_; refine tl_y (y_buildN rfl) rfl rfl ?_) | (refine i_op ?_; first | (refine i_qq ?_; refine qQ ?_) | refine qEf ?_) | refine tl_nil ?_ | (refine i_tc ?_; refine qTc ?_) | (refine i_te ?_; refine qTe ?_) | intro _)
    exact qE (L' := []) ⟨rfl, rfl, rfl⟩
theorem reserved_spec (ρ : Hp) (v : SV) (r : Ros) (h : RosIn ρ v r) : Spec Tryz.prog 44 [.agg ⟨rosV v r⟩] ρ []
    (fun z ρ' L' => ρ.le ρ' ∧ z = .int .i64 (if rosOk r then resN r.p else 0) ∧ L' = []) := by
  have hl := h.at'.at'.len
  have hA := h.at'.at'
  have hck := roscheck_spec ρ v r h
  refine spec_enter Tryz.func44 rfl rfl rfl fun u R => ?_
  simp only [argsE, List.cons_append, List.nil_append]
  cases hok : rosOk r
  · rw [hok] at hck
    simp only [Bool.false_eq_true, if_false] at hck ⊢
    repeat' (first | (refine tl_is (.func 42) ?_; refine qC rfl rfl (hck) ?_; rintro v ρ' L' hle ⟨rfl, rfl, rfl⟩ <;> (try simp only [kM, kN, kO])) | (refine iBu ?_; refine tl_y (y_buildN rfl) rfl rfl ?_) | (refine i_op ?_; first | (refine i_qq ?_; refine qQ ?_) | refine qEf ?_) | refine tl_nil ?_ | (refine i_tc ?_; refine qTc ?_) | (refine i_te ?_; refine qTe ?_) | intro _)
    exact qE (L' := []) ⟨Hp.le_refl _, rfl, rfl⟩
  · have hG : RosG r.p := rosG_iff.1 (by rw [rosOk_p]; exact hok)
    have h8 := hG.len
    have hpl : r.p.txns.length = r.txns.length := by simp [Ros.p]
    have hgs : ∀ t ∈ r.p.txns, TxG t := fun t ht => (hG.tx t ht).2.2
    rw [hok] at hck
    simp only [if_true] at hck ⊢
    repeat' (first | (refine tl_is (.func 42) ?_; refine qC rfl rfl (hck) ?_; rintro v ρ' L' hle ⟨rfl, rfl, rfl⟩ <;> (try simp only [kM, kN, kO])) | (refine iBu ?_; refine tl_y (y_buildN rfl) rfl rfl ?_) | (refine i_op ?_; first | (refine i_qq ?_; refine qQ ?_) | refine qEf ?_) | refine tl_nil ?_ | (refine i_tc ?_; refine qTc ?_) | (refine i_te ?_; refine qTe ?_) | intro _)
    refine tc_loop_g [(2, _), (12, _), (13, _)] (fun (ζ : (Nat) × (Value) × (List Value) × (Nat)) => [(14, .int .i64 ζ.1), (3, ζ.2.1)]) (fun (ζ : (Nat) × (Value) × (List Value) × (Nat)) => ρ') (fun (ζ : (Nat) × (Value) × (List Value) × (Nat)) => [ownC ζ.2.1 ((resL (r.p.txns.take ζ.1)).map iV) ζ.2.2.1 3]) (fun (ζ : (Nat) × (Value) × (List Value) × (Nat)) => ζ.1 ≤ v.n ∧ ζ.2.2.2 = (resL (r.p.txns.take ζ.1)).length ∧ OwnS ζ.2.1 ζ.2.2.2 ((resL (r.p.txns.take ζ.1)).map iV) ζ.2.2.1 1) (fun (ζ : (Nat) × (Value) × (List Value) × (Nat)) => v.n - ζ.1) ((0, .slice none 0 0, [], 0)) (⟨Nat.zero_le _, rfl, OwnS.nil 1⟩) ev_le ev_le rfl tk ?_
    rintro ⟨k, vv, sp, n⟩ hI
    try simp only [List.cons_append, List.nil_append, List.append_assoc, List.append_eq] at hI ⊢
    try dsimp only at hI ⊢
    obtain ⟨hk, hn, hown⟩ := hI
    have hnb := resL_len (l := r.p.txns.take k) (fun t ht => hgs t (List.mem_of_mem_take ht))
    rw [List.length_take] at hnb
    by_cases hlt : k < v.n
    · obtain ⟨b, off, C, T, fr, e1, hb, hfit, hc⟩ := hA.get (show k < r.txns.length by omega)
      have hx2 := resL_take r.p.txns k (by omega)
      have hpk : r.p.txns[k]'(by omega) = (r.txns[k]'(by omega)).p := by simp [Ros.p]
      have hin := h.tx _ (List.getElem_mem (show k < r.txns.length by omega))
      have hxg : TxG (r.txns[k]'(by omega)).p := hgs _ (by rw [← hpk]; exact List.getElem_mem _)
      rw [hpk] at hx2
      generalize r.txns[k]'(by omega) = x at *
      have hsl : x.stack.length ≤ 1099511627776 := hxg.sl
      have hs1 := hin.s.len
      rw [e1]
      generalize hRL : resL (r.p.txns.take k) = RL at *
      have hcost : ∃ B : List Int, B = 1 :: (if x.state = 1 then [1] else []) ∧ costL x.p = B ++ x.stack.map Lf.cost ∧ B.length ≤ 2 := by
        refine ⟨_, rfl, by unfold costL; simp [Tx.p], ?_⟩
        split <;> simp
      obtain ⟨B, hB, hcB, hBl⟩ := hcost
      by_cases hst : x.state = 1
      · rw [if_pos hst] at hB
        subst hB
        repeat' (first | (refine tl_buildSlice_s rfl rfl rfl rfl (by simp) rfl rfl (fun bs => ?_)) | (refine tl_app (ys := [iV 1]) (m := 1) rfl rfl hown (hR := by infer_instance) SrcV.lit rfl rfl (by decide) rfl (by omega) (by omega) rfl (fun v1 sp1 hown1 => ?_)) | (refine tl_app (ys := [iV 1]) (m := 1) rfl rfl hown1 (hR := by infer_instance) SrcV.lit rfl rfl (by decide) rfl (by omega) (by omega) rfl (fun v2 sp2 hown2 => ?_)) | (refine iBu ?_; refine tl_y (y_buildN rfl) rfl rfl ?_) | (refine i_op ?_; first | (refine i_qq ?_; refine qQ ?_) | refine qEf ?_) | refine tl_nil ?_ | (refine i_tc ?_; refine qTc ?_) | (refine i_te ?_; refine qTe ?_) | intro _)
        have hm2 : RL.map iV ++ [iV 1] ++ [iV 1] = (RL ++ [1, 1]).map iV := by simp
        rw [hm2] at hown2 ⊢
        refine tc_loop_g [(2, _), (5, _), (12, _), (13, _), (14, _), (28, _), (29, _)] (fun (ζ : (Nat) × (Value) × (List Value) × (Nat) × (List Int)) => [(30, .int .i64 ζ.1), (3, ζ.2.1)]) (fun (ζ : (Nat) × (Value) × (List Value) × (Nat) × (List Int)) => ρ') (fun (ζ : (Nat) × (Value) × (List Value) × (Nat) × (List Int)) => [ownC ζ.2.1 (ζ.2.2.2.2.map iV) ζ.2.2.1 3]) (fun (ζ : (Nat) × (Value) × (List Value) × (Nat) × (List Int)) => ζ.1 ≤ x.sv.n ∧ ζ.2.2.2.1 = n + 2 + ζ.1 ∧ ζ.2.2.2.2 = RL ++ [1, 1] ++ (x.stack.take ζ.1).map Lf.cost ∧ OwnS ζ.2.1 ζ.2.2.2.1 (ζ.2.2.2.2.map iV) ζ.2.2.1 1) (fun (ζ : (Nat) × (Value) × (List Value) × (Nat) × (List Int)) => x.sv.n - ζ.1) ((0, v2, sp2, n + 2, RL ++ [1, 1])) (⟨Nat.zero_le _, rfl, by simp, hown2⟩) ev_le ev_le rfl tk ?_
        rintro ⟨j, v4, sp4, m, W⟩ hI
        try simp only [List.cons_append, List.nil_append, List.append_assoc, List.append_eq] at hI ⊢
        try dsimp only at hI ⊢
        obtain ⟨hj, hm, hW, hown4⟩ := hI
        by_cases hlt2 : j < x.sv.n
        · obtain ⟨b2, off2, C2, T2, fr2, f1, hb2, hfit2, hc2⟩ := hin.s.get (show j < x.stack.length by omega)
          have hy := List.take_succ_eq_append_getElem (show j < x.stack.length by omega)
          generalize x.stack[j]'(by omega) = y at *
          rw [f1]
          repeat' (first | (refine tl_buildSlice_s rfl rfl rfl rfl (by simp) rfl rfl (fun bs3 => ?_)) | (refine tl_app (ys := [iV y.cost]) (m := 1) rfl rfl hown4 (hR := by infer_instance) SrcV.lit rfl rfl (by decide) rfl (by omega) (by omega) rfl (fun v5 sp5 hown5 => ?_)) | (refine iBu ?_; refine tl_y (y_buildN rfl) rfl rfl ?_) | (refine i_op ?_; first | (refine i_qq ?_; refine qQ ?_) | refine qEf ?_) | refine tl_nil ?_ | (refine i_tc ?_; refine qTc ?_) | (refine i_te ?_; refine qTe ?_) | intro _)
          have hm3 : W.map iV ++ [iV y.cost] = (W ++ [y.cost]).map iV := by simp
          rw [hm3] at hown5 ⊢
          rw [← f1]
          refine te_round_g (j + 1, v5, sp5, m + 1, W ++ [y.cost]) (⟨hlt2, by dsimp only; omega, by dsimp only; rw [hW, hy]; simp, hown5⟩) ev_le ev_le rfl tk inferInstance (by first | omega | (dsimp only; omega))
        · have hj2 : x.stack.take j = x.stack := List.take_of_length_le (by omega)
          have hfin : W = resL (r.p.txns.take (k + 1)) := by rw [hW, hj2, hx2, hcB]; simp
          have hfl : m = (resL (r.p.txns.take (k + 1))).length := by rw [← hfin, hW, hj2]; simp; omega
          rw [hfin] at hown4 ⊢
          repeat' (first | (refine iBu ?_; refine tl_y (y_buildN rfl) rfl rfl ?_) | (refine i_op ?_; first | (refine i_qq ?_; refine qQ ?_) | refine qEf ?_) | refine tl_nil ?_ | (refine i_tc ?_; refine qTc ?_) | (refine i_te ?_; refine qTe ?_) | intro _)
          rw [← e1]
          refine te_round_g (k + 1, v4, sp4, m) (⟨hlt, hfl, hown4⟩) ev_le ev_le rfl tk inferInstance (by first | omega | (dsimp only; omega))
      · rw [if_neg hst] at hB
        subst hB
        repeat' (first | (refine tl_buildSlice_s rfl rfl rfl rfl (by simp) rfl rfl (fun bs => ?_)) | (refine tl_app (ys := [iV 1]) (m := 1) rfl rfl hown (hR := by infer_instance) SrcV.lit rfl rfl (by decide) rfl (by omega) (by omega) rfl (fun v1 sp1 hown1 => ?_)) | (refine iBu ?_; refine tl_y (y_buildN rfl) rfl rfl ?_) | (refine i_op ?_; first | (refine i_qq ?_; refine qQ ?_) | refine qEf ?_) | refine tl_nil ?_ | (refine i_tc ?_; refine qTc ?_) | (refine i_te ?_; refine qTe ?_) | intro _)
        have hm2 : RL.map iV ++ [iV 1] = (RL ++ [1]).map iV := by simp
        rw [hm2] at hown1 ⊢
        refine tc_loop_g [(2, _), (5, _), (12, _), (13, _), (14, _), (28, _), (29, _)] (fun (ζ : (Nat) × (Value) × (List Value) × (Nat) × (List Int)) => [(30, .int .i64 ζ.1), (3, ζ.2.1)]) (fun (ζ : (Nat) × (Value) × (List Value) × (Nat) × (List Int)) => ρ') (fun (ζ : (Nat) × (Value) × (List Value) × (Nat) × (List Int)) => [ownC ζ.2.1 (ζ.2.2.2.2.map iV) ζ.2.2.1 3]) (fun (ζ : (Nat) × (Value) × (List Value) × (Nat) × (List Int)) => ζ.1 ≤ x.sv.n ∧ ζ.2.2.2.1 = n + 1 + ζ.1 ∧ ζ.2.2.2.2 = RL ++ [1] ++ (x.stack.take ζ.1).map Lf.cost ∧ OwnS ζ.2.1 ζ.2.2.2.1 (ζ.2.2.2.2.map iV) ζ.2.2.1 1) (fun (ζ : (Nat) × (Value) × (List Value) × (Nat) × (List Int)) => x.sv.n - ζ.1) ((0, v1, sp1, n + 1, RL ++ [1])) (⟨Nat.zero_le _, rfl, by simp, hown1⟩) ev_le ev_le rfl tk ?_
        rintro ⟨j, v4, sp4, m, W⟩ hI
        try simp only [List.cons_append, List.nil_append, List.append_assoc, List.append_eq] at hI ⊢
        try dsimp only at hI ⊢
        obtain ⟨hj, hm, hW, hown4⟩ := hI
        by_cases hlt2 : j < x.sv.n
        · obtain ⟨b2, off2, C2, T2, fr2, f1, hb2, hfit2, hc2⟩ := hin.s.get (show j < x.stack.length by omega)
          have hy := List.take_succ_eq_append_getElem (show j < x.stack.length by omega)
          generalize x.stack[j]'(by omega) = y at *
          rw [f1]
          repeat' (first | (refine tl_buildSlice_s rfl rfl rfl rfl (by simp) rfl rfl (fun bs3 => ?_)) | (refine tl_app (ys := [iV y.cost]) (m := 1) rfl rfl hown4 (hR := by infer_instance) SrcV.lit rfl rfl (by decide) rfl (by omega) (by omega) rfl (fun v5 sp5 hown5 => ?_)) | (refine iBu ?_; refine tl_y (y_buildN rfl) rfl rfl ?_) | (refine i_op ?_; first | (refine i_qq ?_; refine qQ ?_) | refine qEf ?_) | refine tl_nil ?_ | (refine i_tc ?_; refine qTc ?_) | (refine i_te ?_; refine qTe ?_) | intro _)
          have hm3 : W.map iV ++ [iV y.cost] = (W ++ [y.cost]).map iV := by simp
          rw [hm3] at hown5 ⊢
          rw [← f1]
          refine te_round_g (j + 1, v5, sp5, m + 1, W ++ [y.cost]) (⟨hlt2, by dsimp only; omega, by dsimp only; rw [hW, hy]; simp, hown5⟩) ev_le ev_le rfl tk inferInstance (by first | omega | (dsimp only; omega))
        · have hj2 : x.stack.take j = x.stack := List.take_of_length_le (by omega)
          have hfin : W = resL (r.p.txns.take (k + 1)) := by rw [hW, hj2, hx2, hcB]; simp
          have hfl : m = (resL (r.p.txns.take (k + 1))).length := by rw [← hfin, hW, hj2]; simp; omega
          rw [hfin] at hown4 ⊢
          repeat' (first | (refine iBu ?_; refine tl_y (y_buildN rfl) rfl rfl ?_) | (refine i_op ?_; first | (refine i_qq ?_; refine qQ ?_) | refine qEf ?_) | refine tl_nil ?_ | (refine i_tc ?_; refine qTc ?_) | (refine i_te ?_; refine qTe ?_) | intro _)
          rw [← e1]
          refine te_round_g (k + 1, v4, sp4, m) (⟨hlt, hfl, hown4⟩) ev_le ev_le rfl tk inferInstance (by first | omega | (dsimp only; omega))
    · have hk2 : k = r.p.txns.length := by omega
      rw [show r.p.txns.take k = r.p.txns by rw [hk2, List.take_length]] at hown hn hnb ⊢
      refine tc_freeze (ownC vv ((resL r.p.txns).map iV) sp 3) (fun ρ3 hle3 hfz => ?_)
      obtain ⟨sa, sc, e1, hsc, hA2⟩ := hown.sIn hfz
      subst e1
      have hsm := rsum_spec ρ3 sa n sc (resL r.p.txns) hA2 (resL_in hgs) (by omega)
      unfold resN
      repeat' (first | (refine tl_is (.func 126) ?_; refine qC rfl rfl (hsm) ?_; rintro v ρ' L' hle ⟨rfl, rfl, rfl⟩ <;> (try simp only [kM, kN, kO])) | (refine iBu ?_; refine tl_y (y_buildN rfl) rfl rfl ?_) | (refine i_op ?_; first | (refine i_qq ?_; refine qQ ?_) | refine qEf ?_) | refine tl_nil ?_ | (refine i_tc ?_; refine qTc ?_) | (refine i_te ?_; refine qTe ?_) | intro _)
      exact qE (L' := []) ⟨hle3, rfl, rfl⟩
end Go.Proofs.E

namespace Go.Proofs.E
open Go
set_option linter.unusedVariables false
set_option linter.unusedSimpArgs false
set_option linter.unusedSectionVars false
set_option maxRecDepth 4000
set_option maxHeartbeats 1000000
attribute [local irreducible] Yl TL TC TE Spec YSpec R1 Hp.le EnvLe TS TR YS Stays
-- BN
theorem leastF_le : ∀ {l : List TxP} {n : Nat}, n ≠ 0 → (∀ t ∈ l, n ≤ t.first) → leastF n l = n
  | [], _, _, _ => rfl
  | t :: r, n, h0, h => by
    have h1 := h t (by simp)
    rw [leastF, if_neg (by omega)]
    exact leastF_le h0 (fun x hx => h x (by simp [hx]))
theorem leastF_min : ∀ {l : List TxP} {y : TxP} {n : Nat}, y ∈ l → 1 ≤ y.first → (∀ t ∈ l, y.first ≤ t.first) → (n = 0 ∨ y.first ≤ n) → leastF n l = y.first
  | t :: r, y, n, hm, h1, h, hn => by
    have ht := h t (by simp)
    rw [leastF]
    by_cases hy : y ∈ r
    · refine leastF_min hy h1 (fun x hx => h x (by simp [hx])) ?_
      split <;> omega
    · have e : y = t := by rcases List.mem_cons.1 hm with e | e; exact e; exact absurd e hy
      subst e
      have : (if n = 0 ∨ y.first < n then y.first else n) = y.first := by split <;> omega
      rw [this]
      exact leastF_le (by omega) (fun x hx => h x (by simp [hx]))
theorem rleast_spec (ρ : Hp) (v : SV) (r : Ros) (h : RosIn ρ v r) : Spec Tryz.prog 43 [.agg ⟨rosV v r⟩] ρ [] (fun z ρ' L' => z = .int .u64 (if rosOk r then leastP r.p else 0 : Nat) ∧ ρ' = ρ ∧ L' = []) := by
  have hl := h.at'.at'.len
  have hck := roscheck_spec ρ v r h
  refine spec_enter Tryz.func43 rfl rfl rfl fun u R => ?_
  simp only [argsE, List.cons_append, List.nil_append]
  cases hok : rosOk r
  · rw [hok] at hck
    simp only [Bool.false_eq_true, if_false] at hck ⊢
    repeat' (first | (refine tl_is (.func 42) ?_; refine qC rfl rfl (hck) ?_; rintro v ρ' L' hle ⟨rfl, rfl, rfl⟩ <;> (try simp only [kM, kN, kO])) | (refine iBu ?_; refine tl_y (y_buildN rfl) rfl rfl ?_) | (refine i_op ?_; first | (refine i_qq ?_; refine qQ ?_) | refine qEf ?_) | refine tl_nil ?_ | (refine i_tc ?_; refine qTc ?_) | (refine i_te ?_; refine qTe ?_) | intro _)
    exact qE (L' := []) ⟨rfl, rfl, rfl⟩
  · have hG : RosG r.p := rosG_iff.1 (by rw [rosOk_p]; exact hok)
    rw [hok] at hck
    simp only [if_true] at hck ⊢
    by_cases h0 : v.n = 0
    · have : r.txns = [] := List.eq_nil_of_length_eq_zero (by omega)
      have e : leastP r.p = 0 := by unfold leastP; simp [Ros.p, this, leastF]
      rw [e]
      repeat' (first | (refine tl_is (.func 42) ?_; refine qC rfl rfl (hck) ?_; rintro v ρ' L' hle ⟨rfl, rfl, rfl⟩ <;> (try simp only [kM, kN, kO])) | (refine iBu ?_; refine tl_y (y_buildN rfl) rfl rfl ?_) | (refine i_op ?_; first | (refine i_qq ?_; refine qQ ?_) | refine qEf ?_) | refine tl_nil ?_ | (refine i_tc ?_; refine qTc ?_) | (refine i_te ?_; refine qTe ?_) | intro _)
      exact qE (L' := []) ⟨rfl, rfl, rfl⟩
    · have hm := minTx_spec ρ v r.txns h.at' (by omega)
      repeat' (first | (refine tl_is (.func 42) ?_; refine qC rfl rfl (hck) ?_; rintro v ρ' L' hle ⟨rfl, rfl, rfl⟩ <;> (try simp only [kM, kN, kO])) | (refine tl_is (.func 123) ?_; refine qC rfl rfl (hm) ?_; rintro v ρ' L' hle ⟨rfl, y, rfl, hy, hmin, rfl⟩ <;> (try simp only [kM, kN, kO])) | (refine iBu ?_; refine tl_y (y_buildN rfl) rfl rfl ?_) | (refine i_op ?_; first | (refine i_qq ?_; refine qQ ?_) | refine qEf ?_) | refine tl_nil ?_ | (refine i_tc ?_; refine qTc ?_) | (refine i_te ?_; refine qTe ?_) | intro _)
      have e : leastP r.p = y.first := by
        have hy2 : y.p ∈ r.p.txns := List.mem_map.2 ⟨y, hy, rfl⟩
        refine leastF_min (y := y.p) hy2 ((hG.tx _ hy2).2.2.f1) (fun t ht => ?_) (.inl rfl)
        obtain ⟨x, hx, rfl⟩ := List.mem_map.1 ht
        exact hmin x hx
      rw [e]
      exact qE (L' := []) ⟨rfl, rfl, rfl⟩
def zX : Tx := ⟨0, 0, 0, 0, 0, [], [], ⟨none, 0, 0⟩, ⟨none, 0, 0⟩⟩
theorem zX_in (ρ : Hp) : Tx.In ρ zX := ⟨AIn.nil, SIn.nil, Nat.zero_le _, Nat.zero_le _, Nat.le_refl _, Nat.le_refl _⟩
/-- what a search answers -/
def FindR (o : Option TxP) (x : Tx) (b : Bool) : Prop := (∃ t, o = some t ∧ b = true ∧ x.p = t) ∨ (o = none ∧ b = false ∧ x = zX)
theorem rfind_spec (ρ : Hp) (v : SV) (ro : Ros) (h : RosIn ρ v ro) (num : Int) : Spec Tryz.prog 47 [.agg ⟨rosV v ro⟩, .int .i64 num] ρ []
    (fun z ρ' L' => ρ' = ρ ∧ ∃ x b, z = .tuple ⟨[.agg ⟨txV x⟩, .bool b]⟩ ∧ Tx.In ρ' x ∧ FindR (if rosOk ro then findT ro.p num else none) x b ∧ L' = []) := by
  have hck := roscheck_spec ρ v ro h
  have hat := atT_spec ρ ro.next v ro.txns h.at' num
  have hl := h.at'.at'.len
  have hA := h.at'.at'
  refine spec_enter Tryz.func47 rfl rfl rfl fun u R => ?_
  simp only [argsE, List.cons_append, List.nil_append]
  repeat' (first | (refine tl_is (.func 128) ?_; refine qC rfl rfl (hat) ?_; rintro v ρ' L' hle ⟨rfl, i, there, rfl, hAt, rfl⟩ <;> (try simp only [kM, kN, kO])) | (refine iBu ?_; refine tl_y (y_buildN rfl) rfl rfl ?_) | (refine i_op ?_; first | (refine i_qq ?_; refine qQ ?_) | refine qEf ?_) | refine tl_nil ?_ | (refine i_tc ?_; refine qTc ?_) | (refine i_te ?_; refine qTe ?_) | intro _)
  cases hok : rosOk ro
  · rw [hok] at hck
    simp only [Bool.false_eq_true, if_false] at hck ⊢
    cases there
    all_goals (repeat' (first | (refine tl_is (.func 42) ?_; refine qC rfl rfl (hck) ?_; rintro v ρ' L' hle ⟨rfl, rfl, rfl⟩ <;> (try simp only [kM, kN, kO])) | (refine iBu ?_; refine tl_y (y_buildN rfl) rfl rfl ?_) | (refine i_op ?_; first | (refine i_qq ?_; refine qQ ?_) | refine qEf ?_) | refine tl_nil ?_ | (refine i_tc ?_; refine qTc ?_) | (refine i_te ?_; refine qTe ?_) | intro _))
    all_goals exact qE (L' := []) ⟨rfl, zX, false, rfl, zX_in _, .inr ⟨rfl, rfl, rfl⟩, rfl⟩
  · have hG : RosG ro.p := rosG_iff.1 (by rw [rosOk_p]; exact hok)
    rw [hok] at hck
    simp only [if_true] at hck ⊢
    have hfa := find_at (next := ro.next) (txns := ro.p.txns) (os := ro.txns.map (fun x => ⟨x, [], []⟩)) (num := num) (i := i) (there := there) (by rw [List.map_map]; have : (OT.x ∘ fun x => (⟨x, [], []⟩ : OT)) = id := rfl; rw [this, List.map_id]; exact hAt) (by rw [List.map_map]; rfl) hG
    cases there
    · have hf : findT ro.p num = none := hfa.2 rfl
      rw [hf]
      repeat' (first | (refine iBu ?_; refine tl_y (y_buildN rfl) rfl rfl ?_) | (refine i_op ?_; first | (refine i_qq ?_; refine qQ ?_) | refine qEf ?_) | refine tl_nil ?_ | (refine i_tc ?_; refine qTc ?_) | (refine i_te ?_; refine qTe ?_) | intro _)
      exact qE (L' := []) ⟨rfl, zX, false, rfl, zX_in _, .inr ⟨rfl, rfl, rfl⟩, rfl⟩
    · obtain ⟨hi, hnum, hf⟩ := hfa.1 rfl
      rw [List.length_map] at hi
      have hf : findT ro.p num = some (ro.txns[i]).p := by
        have : findT ro.p num = _ := hf
        rw [this]; simp
      rw [hf]
      obtain ⟨b, off, C, T, fr, e1, hb, hfit, hc⟩ := hA.get hi
      have hin := h.tx _ (List.getElem_mem hi)
      generalize ro.txns[i] = x at *
      have hrv : rosV v ro = [.int .i64 ro.next, .slice (some ⟨b, off, none⟩) v.n v.c] := by rw [← e1]
      rw [hrv] at hck ⊢
      repeat' (first | (refine tl_is (.func 42) ?_; refine qC rfl rfl (hck) ?_; rintro v ρ' L' hle ⟨rfl, rfl, rfl⟩ <;> (try simp only [kM, kN, kO])) | (refine iBu ?_; refine tl_y (y_buildN rfl) rfl rfl ?_) | (refine i_op ?_; first | (refine i_qq ?_; refine qQ ?_) | refine qEf ?_) | refine tl_nil ?_ | (refine i_tc ?_; refine qTc ?_) | (refine i_te ?_; refine qTe ?_) | intro _)
      exact qE (L' := []) ⟨rfl, x, true, rfl, hin, .inl ⟨_, rfl, rfl, rfl⟩, rfl⟩
/-- Mark, with what came frozen -/
theorem putT_len (p : RosP) (t : TxP) : (putT p t).txns.length = p.txns.length := by simp [putT]
theorem asks_ok {f : TxP → Int} {g : TxP → TxP} {p : RosP} {num : Int} (hg : ∀ t, (g t).num = t.num) (hgk : ∀ t, TxG t → t.state = 1 → f t = 0 → TxG (g t)) (he : asksE f p num = 0) : RosG (asksP f g p num) := by
  unfold asksP
  rw [if_pos he]
  unfold asksE at he
  cases h1 : rosOkP p
  · rw [h1] at he; simp at he
  · have hG := rosG_iff.1 h1
    rw [h1] at he
    simp only [if_true] at he
    cases hf : findT p num with
    | none => rw [hf] at he; cases he
    | some t =>
      rw [hf] at he
      unfold askE at he
      dsimp only at he
      split at he
      · rename_i hs
        obtain ⟨hm, hn⟩ := findT_mem hf
        obtain ⟨i, hi, rfl⟩ := List.mem_iff_getElem.1 hm
        show RosG (putT p (g p.txns[i]))
        rw [putT_set hG hi (hg _)]
        exact hG.set hi (hg _) (hgk _ (hG.tx _ hm).2.2 hs he)
      · cases he
theorem markG_ok {t : TxP} (h : TxG t) (hs : t.state = 1) (hf : markF t = 0) : TxG (markG t) := by
  unfold markF at hf
  have h8 : t.marks.length < 8 := by
    by_cases h8 : 8 ≤ t.marks.length
    · rw [if_pos h8] at hf; cases hf
    · omega
  have hfu := h.fu
  refine ⟨h.s1, h.s3, h.f1, h.fu, h.ul, h.lm, h.st, h.so, ?_, fun _ => hs, fun m hm => ?_, ?_⟩
  · show (t.marks ++ [t.undo]).length ≤ 8
    rw [List.length_append, List.length_singleton]; omega
  · rcases List.mem_append.1 hm with hm | hm
    · exact h.mb m hm
    · rw [List.mem_singleton] at hm
      subst hm
      exact ⟨hfu, Nat.le_refl _⟩
  · show (t.marks ++ [t.undo]).Pairwise (· ≤ ·)
    refine List.pairwise_append.2 ⟨h.mo, by simp, fun a ha b hb => ?_⟩
    rw [List.mem_singleton] at hb
    subst hb
    exact (h.mb a ha).2
theorem cutG_ok {t : TxP} (h : TxG t) (hs : t.state = 1) (n : Int) : TxG (cutG n t) := by
  refine ⟨h.s1, h.s3, h.f1, h.fu, h.ul, h.lm, h.st, h.so, ?_, fun _ => hs, fun m hm => h.mb m (List.mem_of_mem_take hm), h.mo.sublist (List.take_sublist _ _)⟩
  show (t.marks.take n.toNat).length ≤ 8
  have := h.ml
  rw [List.length_take]; omega
theorem markZ_spec (ρ : Hp) (v : SV) (ro : Ros) (h : RosIn ρ v ro) (num : Int) : Spec Tryz.prog 57 [.agg ⟨rosV v ro⟩, .int .i64 num] ρ []
    (fun z ρ' L' => (ρ.le ρ' ∧ ∃ (v' : SV) (ro' : Ros), z = .tuple ⟨[.agg ⟨rosV v' ro'⟩, .int .i64 (markK ro.p num), .int .i64 (markE ro.p num)]⟩ ∧ RosIn ρ' v' ro' ∧ ro'.p = markP' ro.p num) ∧ L' = []) := by
  refine Spec.freeze (Post2 := fun z ρ' => ρ.le ρ' ∧ ∃ (v' : SV) (ro' : Ros), z = .tuple ⟨[.agg ⟨rosV v' ro'⟩, .int .i64 (markK ro.p num), .int .i64 (markE ro.p num)]⟩ ∧ RosIn ρ' v' ro' ∧ ro'.p = markP' ro.p num) (mark_spec ρ v ro h num) ?_
  rintro z ρ' L' _ ⟨hl1, ⟨he, rfl, rfl⟩ | ⟨he, vv, sp, os, hR, rfl, rfl⟩⟩ ρ2 hl2 hf
  · have e1 : markK ro.p num = 0 := by unfold markK; rw [if_neg he]
    refine ⟨Hp.le_trans hl1 hl2, nilS, ⟨0, []⟩, by rw [e1], RosIn.z, ?_⟩
    unfold markP' asksP
    exact (if_neg (show ¬ asksE markF ro.p num = 0 from he)).symm
  · have e1 : markK ro.p num = marksN ro.p num := by unfold markK; rw [if_pos he]
    obtain ⟨v', ro', e2, e3, e4⟩ := own_frozen (next := (markP' ro.p num).next) hR (asks_ok (fun _ => rfl) (fun t h1 h2 h3 => markG_ok h1 h2 h3) he) rfl hf
    exact ⟨Hp.le_trans hl1 hl2, v', ro', by rw [e2, he, e1], e3, e4⟩
end Go.Proofs.E

namespace Go.Proofs.E
open Go
set_option linter.unusedVariables false
set_option linter.unusedSimpArgs false
set_option linter.unusedSectionVars false
set_option maxRecDepth 4000
set_option maxHeartbeats 1000000
attribute [local irreducible] Yl TL TC TE Spec YSpec R1 Hp.le EnvLe TS TR YS Stays
-- BN
theorem rnew_spec (ρ : Hp) : Spec Tryz.prog 35 [] ρ [] (fun z ρ' L' => z = .agg ⟨rosV nilS ⟨1, []⟩⟩ ∧ ρ' = ρ ∧ L' = []) := by
  refine spec_enter Tryz.func35 rfl rfl rfl fun u R => ?_
  simp only [argsE, List.cons_append, List.nil_append]
  repeat' (first | (refine iBu ?_; refine tl_y (y_buildN rfl) rfl rfl ?_) | (refine i_op ?_; first | (refine i_qq ?_; refine qQ ?_) | refine qEf ?_) | refine tl_nil ?_ | (refine i_tc ?_; refine qTc ?_) | (refine i_te ?_; refine qTe ?_) | intro _)
  exact qE (L' := []) ⟨rfl, rfl, rfl⟩
theorem rnew_in (ρ : Hp) : RosIn ρ nilS ⟨1, []⟩ := ⟨AS.nil, by simp⟩
theorem takeW (ρ : Hp) (v : SV) (ro : Ros) (h : RosIn ρ v ro) (rv : RV) (r : Rc) (hr : RcIn ρ rv r) {p p' : RosP} (hp : ro.p = p) (he : takeE p r = 0) (hP : takeP p r = p') : Spec Tryz.prog 60 [.agg ⟨rosV v ro⟩, .agg ⟨recV rv r⟩] ρ []
    (fun z ρ' L' => ρ.le ρ' ∧ ∃ (v' : SV) (ro' : Ros), z = .tuple ⟨[.agg ⟨rosV v' ro'⟩, .int .i64 0]⟩ ∧ RosIn ρ' v' ro' ∧ ro'.p = p' ∧ L' = []) := by
  refine (takeF_spec ρ v ro h rv r hr).mono ?_
  rintro z ρ' L' _ ⟨⟨h1, v', ro', h2, h3, h4⟩, h5⟩
  rw [hp, he] at h2
  rw [hp, hP] at h4
  exact ⟨h1, v', ro', h2, h3, h4, h5⟩
theorem markW (ρ : Hp) (v : SV) (ro : Ros) (h : RosIn ρ v ro) (num : Int) {p p' : RosP} {k : Int} (hp : ro.p = p) (he : markE p num = 0) (hk : markK p num = k) (hP : markP' p num = p') : Spec Tryz.prog 57 [.agg ⟨rosV v ro⟩, .int .i64 num] ρ []
    (fun z ρ' L' => ρ.le ρ' ∧ ∃ (v' : SV) (ro' : Ros), z = .tuple ⟨[.agg ⟨rosV v' ro'⟩, .int .i64 k, .int .i64 0]⟩ ∧ RosIn ρ' v' ro' ∧ ro'.p = p' ∧ L' = []) := by
  refine (markZ_spec ρ v ro h num).mono ?_
  rintro z ρ' L' _ ⟨⟨h1, v', ro', h2, h3, h4⟩, h5⟩
  rw [hp, he, hk] at h2
  rw [hp, hP] at h4
  exact ⟨h1, v', ro', h2, h3, h4, h5⟩
def wq1 : Rc := ⟨1, 1, 1, 0, 0, [], [], 0, [], []⟩
def wq2 : Rc := ⟨2, 2, 1, 1, 0, [⟨1, nilCV, ztC, nilCV, ztC⟩], [], 0, [], []⟩
def wq3 : Rc := ⟨4, 3, 1, 2, 1, [], [⟨1, ⟨0, 0, 0, []⟩, 1⟩], 0, [], []⟩
def wp1 : RosP := ⟨2, [⟨1, 1, 1, 1, 1, [], []⟩]⟩
def wp2 : RosP := ⟨2, [⟨1, 1, 1, 1, 1, [], [1]⟩]⟩
def wp3 : RosP := ⟨2, [⟨1, 1, 1, 2, 2, [⟨2, 1⟩], [1]⟩]⟩
def wp4 : RosP := ⟨2, [⟨1, 1, 1, 3, 3, [⟨3, 3⟩], [1]⟩]⟩
theorem wqA : takeE ⟨1, []⟩ wq1 = 0 ∧ takeP ⟨1, []⟩ wq1 = wp1 := by decide +kernel
theorem wqB : markE wp1 1 = 0 ∧ markK wp1 1 = 1 ∧ markP' wp1 1 = wp2 := by decide +kernel
theorem wqC : takeE wp2 wq2 = 0 ∧ takeP wp2 wq2 = wp3 := by decide +kernel
theorem wqD : takeE wp3 wq3 = 0 ∧ takeP wp3 wq3 = wp4 := by decide +kernel
theorem wqE : whereE wp4 1 1 = 0 ∧ whereV wp4 1 1 = 1 ∧ rosOkP wp4 = true ∧ resN wp4 = 5 ∧ leastP wp4 = 1 := by decide +kernel
theorem wakes18_spec (ρ : Hp) : Spec Tryz.prog 32 [] ρ [] (fun v ρ' L' => v = .bool true ∧ ρ.le ρ' ∧ L' = []) := by
  have hρ := Hp.le_refl ρ
  have hT1 := takeW ρ nilS ⟨1, []⟩ (rnew_in ρ) noRV wq1 ⟨AS.nil, by simp [wq1], AS.nil, AS.nil, AS.nil, by simp [wq1]⟩ rfl wqA.1 wqA.2
  refine spec_enter Tryz.func32 rfl rfl rfl fun u R => ?_
  simp only [argsE, List.cons_append, List.nil_append]
  repeat' (first | (refine tl_is (.func 35) ?_; refine qC rfl rfl (rnew_spec _) ?_; rintro v ρ' L' hle ⟨rfl, rfl, rfl⟩ <;> (try simp only [kM, kN, kO])) | (refine tl_is (.func 60) ?_; refine qC rfl rfl (hT1) ?_; rintro v ρ' L' hle ⟨hl1, v1, ro1, rfl, hR1, hp1, rfl⟩ <;> (try simp only [kM, kN, kO])) | (refine tl_is (.func 57) ?_; refine qC rfl rfl (markW _ v1 ro1 hR1 1 hp1 wqB.1 wqB.2.1 wqB.2.2) ?_; rintro v ρ' L' hle ⟨hl2, v2, ro2, rfl, hR2, hp2, rfl⟩ <;> (try simp only [kM, kN, kO])) | (refine tl_buildSliceA (css := [imV ⟨1, nilCV, ztC, nilCV, ztC⟩]) (sz := 7) rfl rfl rfl rfl (by simp) (by simp) rfl (fun bs => ?_); simp only [List.flatten_cons, List.flatten_nil, List.append_nil]; refine tl_freeze _ (h := Rem.here) (fun ρz hlz hfz => ?_); have hbs := hfz _ (List.mem_singleton.2 rfl); clear hfz; (try simp only [List.nil_append]); have hT2 := takeW ρz v2 ro2 (hR2.mono hlz) ⟨⟨some ⟨bs, 0, none⟩, 1, 1⟩, ⟨none, 0, 0⟩, ⟨none, 0, 0⟩, ⟨none, 0, 0⟩⟩ wq2 ⟨⟨⟨rfl, .inr ⟨bs, 0, _, _, _, rfl, hbs, Nat.le_refl _, rfl⟩, by simp⟩, by dsimp only; omega, by dsimp only; omega⟩, fun x hx => by (rw [List.mem_singleton.1 hx]; exact ⟨CI.nil, CI.nil⟩), AS.nil, AS.nil, AS.nil, by simp [wq2]⟩ hp2 wqC.1 wqC.2) | (refine tl_is (.func 60) ?_; refine qC rfl rfl (hT2) ?_; rintro v ρ' L' hle ⟨hl3, v3, ro3, rfl, hR3, hp3, rfl⟩ <;> (try simp only [kM, kN, kO])) | (refine tl_buildSliceA (css := [stpV ⟨1, ⟨0, 0, 0, []⟩, 1⟩]) (sz := 6) rfl rfl rfl rfl (by simp) (by simp) rfl (fun bs2 => ?_); simp only [List.flatten_cons, List.flatten_nil, List.append_nil]; refine tl_freeze _ (h := Rem.here) (fun ρy hly hfy => ?_); have hbs2 := hfy _ (List.mem_singleton.2 rfl); clear hfy; (try simp only [List.nil_append]); have hT3 := takeW ρy v3 ro3 (hR3.mono hly) ⟨⟨none, 0, 0⟩, ⟨some ⟨bs2, 0, none⟩, 1, 1⟩, ⟨none, 0, 0⟩, ⟨none, 0, 0⟩⟩ wq3 ⟨AS.nil, by simp [wq3], ⟨⟨rfl, .inr ⟨bs2, 0, _, _, _, rfl, hbs2, Nat.le_refl _, rfl⟩, by simp⟩, by dsimp only; omega, by dsimp only; omega⟩, AS.nil, AS.nil, fun s hs => by (rw [List.mem_singleton.1 hs]; exact ⟨by decide, by decide, by decide⟩)⟩ hp3 wqD.1 wqD.2) | (refine tl_is (.func 60) ?_; refine qC rfl rfl (hT3) ?_; rintro v ρ' L' hle ⟨hl4, v4, ro4, rfl, hR4, hp4, rfl⟩ <;> (try simp only [kM, kN, kO])) | (refine iBu ?_; refine tl_y (y_buildN rfl) rfl rfl ?_) | (refine i_op ?_; first | (refine i_qq ?_; refine qQ ?_) | refine qEf ?_) | refine tl_nil ?_ | (refine i_tc ?_; refine qTc ?_) | (refine i_te ?_; refine qTe ?_) | intro _)
  obtain ⟨z1, z2, z3, z4, z5⟩ := wqE
  have hok : rosOk ro4 = true := by rw [← rosOk_p, hp4]; exact z3
  have hnx : ro4.next = 2 := congrArg RosP.next hp4
  have hW := where_spec ρ' v4 ro4 hR4 1 1 ⟨by omega, by omega⟩
  rw [hp4, z1, z2] at hW
  simp only [if_true] at hW
  have hS := fun ρ2 (h : RosIn ρ2 v4 ro4) => reserved_spec ρ2 v4 ro4 h
  rw [hok, hp4, z4] at hS
  simp only [if_true] at hS
  have hL := fun ρ2 (h : RosIn ρ2 v4 ro4) => rleast_spec ρ2 v4 ro4 h
  rw [hok, hp4, z5] at hL
  simp only [if_true] at hL
  repeat' (first | (refine tl_is (.func 55) ?_; refine qC rfl rfl (hW) ?_; rintro v ρ' L' hle ⟨hl5, rfl, rfl⟩ <;> (try simp only [kM, kN, kO])) | (refine tl_is (.func 44) ?_; refine qC rfl rfl (hS _ (hR4.mono hl5)) ?_; rintro v ρ' L' hle ⟨hl6, rfl, rfl⟩ <;> (try simp only [kM, kN, kO])) | (refine tl_is (.func 43) ?_; refine qC rfl rfl (hL _ ((hR4.mono hl5).mono hl6)) ?_; rintro v ρ' L' hle ⟨rfl, rfl, rfl⟩ <;> (try simp only [kM, kN, kO])) | (refine iBu ?_; refine tl_y (y_buildN rfl) rfl rfl ?_) | (refine i_op ?_; first | (refine i_qq ?_; refine qQ ?_) | refine qEf ?_) | refine tl_nil ?_ | (refine i_tc ?_; refine qTc ?_) | (refine i_te ?_; refine qTe ?_) | intro _)
  exact qE (L' := []) ⟨rfl, Hp.le_trans hl1 (Hp.le_trans hl2 (Hp.le_trans hlz (Hp.le_trans hl3 (Hp.le_trans hly (Hp.le_trans hl4 (Hp.le_trans hl5 hl6)))))), rfl⟩ (hle := Hp.le_trans hl1 (Hp.le_trans hl2 (Hp.le_trans hlz (Hp.le_trans hl3 (Hp.le_trans hly (Hp.le_trans hl4 (Hp.le_trans hl5 hl6)))))))
end Go.Proofs.E

