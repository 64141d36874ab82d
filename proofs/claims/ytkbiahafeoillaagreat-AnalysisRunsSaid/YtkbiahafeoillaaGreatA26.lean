/- Laws of analysis. Part 26 of 41. -/
import Derived.Test.YtkbiahafeoillaaGreatA25
namespace Go.Proofs.E
open Go
set_option linter.unusedVariables false
set_option linter.unusedSimpArgs false
set_option linter.unusedSectionVars false
set_option maxRecDepth 4000
set_option maxHeartbeats 1000000
attribute [local irreducible] Yl TL TC TE Spec Xb R1 Hp.le EnvLe TS TR YS Zk
theorem find_at {next : Int} {txns : List TxP} {os : List OT} {num : Int} {i : Nat} {there : Bool} (hA : AtT (os.map OT.x) num i there) (hs : os.map (fun o => o.x.p) = txns) (hG : RosG ⟨next, txns⟩) :
  (there = true → ∃ h : i < os.length, os[i].x.num = num ∧ Xg ⟨next, txns⟩ num = some os[i].x.p) ∧ (there = false → Xg ⟨next, txns⟩ num = none) := by
 have hup : TblT (os.map OT.x) := by
  have := hG.up
  rw [← hs] at this
  have h2 := (List.pairwise_map (f := fun o : OT => o.x.p) (R := fun a b : TxP => a.num < b.num)).1 this
  exact (List.pairwise_map (f := OT.x) (R := fun a b : Tx => a.num < b.num)).2 h2
 constructor
 ·intro ht
  obtain ⟨h1, h2⟩ := hA.hit ht
  rw [List.length_map] at h1
  rw [List.getElem_map] at h2
  refine ⟨h1, h2, ?_⟩
  have hi : i < txns.length := by rw [← hs, List.length_map]; exact h1
  have := findT_idx hG (i := i) hi
  have e : txns[i] = os[i].x.p := by simp [← hs]
  dsimp only at this
  rw [e] at this
  rw [← h2]; exact this
 ·intro ht
  unfold Xg
  rw [List.find?_eq_none]
  intro t ht2
  rw [← hs] at ht2
  obtain ⟨o, ho, rfl⟩ := List.mem_map.1 ht2
  obtain ⟨j, hj, rfl⟩ := List.mem_iff_getElem.1 ho
  have hj2 : j < (os.map OT.x).length := by simpa using hj
  have e : (os.map OT.x)[j] = os[j].x := by simp
  rw [decide_eq_true_eq]
  show ¬ os[j].x.num = num
  by_cases h : j < i
  ·have := hA.lo hup j hj2 h
   rw [e] at this; omega
  ·have := hA.hi hup ht j hj2 (by omega)
   rw [e] at this; omega
theorem nextT_num (t : TxP) (r : Rc) : (XN t r).num = t.num := by
 unfold XN
 split
 ·rfl
 ·split
  ·rfl
  ·split
   ·rfl
   ·split <;> rfl
structure Among (os : List OT) (i : Nat) (A : List OT) (o : OT) (B : List OT) : Prop where
 eq : os = A ++ o :: B
 len : A.length = i
theorem among {os : List OT} {i : Nat} (h : i < os.length) : Among os i (os.take i) os[i] (os.drop (i + 1)) :=
 ⟨by rw [← List.drop_eq_getElem_cons h, List.take_append_drop], by rw [List.length_take]; omega⟩
theorem OwnS.blk {vv : Value} {n sz : Nat} {xs sp : List Value} (h : OwnS vv n xs sp sz) (hn : 0 < n) : ∃ b cap, vv = .slice (some ⟨b, 0, none⟩) n cap ∧ xs.length = n * sz ∧ xs.length + sp.length = cap * sz ∧ n ≤ cap := by
 rcases h.out with ⟨_, q1, _, _⟩ | q
 ·omega
 ·exact q
theorem OwnS.turn {b cap n : Nat} {xs xs' sp : List Value} (h : OwnS (.slice (some ⟨b, 0, none⟩) n cap) n xs sp 7) (hl : xs'.length = xs.length) : OwnS (.slice (some ⟨b, 0, none⟩) n cap) n xs' sp 7 := by
 rcases h.out with ⟨e, _⟩ | ⟨b2, c2, e, h1, h2, h3⟩
 ·cases e
 ·cases e
  exact ⟨.inr ⟨b, cap, rfl, by omega, by omega, h3⟩⟩
theorem takes_spec (ρ : Hp) (cb : Nat) (next : Int) (vv : Value) (sp : List Value) (os : List OT) (txns : List TxP) (hR : OwnR vv sp os txns) (rv0 : RV) (r0 : Rc) (t0 : Option Addr) (rv : RV) (r : Rc) (h : RcIn ρ rv r) (hok : ZU r = true) (hG : RosG ⟨next, txns⟩) :
  Spec Tryz.prog 53 [.pointer (some ⟨cb, 0, none⟩), .agg ⟨Yx rv r⟩] ρ (Xd cb next vv rv0 r0 t0 :: ownRC vv sp os)
   (DoR (YI ⟨next, txns⟩ r) (Xn ⟨next, txns⟩ r).next (Xn ⟨next, txns⟩ r).txns [] cb ρ) := by
 have hk := (Xp hok).kind
 have h8 := hG.len
 have hol := hR.len
 dsimp only at h8
 have hn := hG.n1
 have hn2 := hG.n2
 dsimp only at hn hn2
 obtain ⟨va, vc, hvv, hvc⟩ := hR.own.slice
 unfold DoR YI Xn
 by_cases k9 : r.kind = 9
 ·simp only [if_pos k9]
  refine Zd Tryz.func53 rfl rfl rfl fun u R => ?_
  simp only [Zo, List.cons_append, List.nil_append]
  repeat' (first | refine zV ?_ | intro _)
  exact qE (L' := Xd cb next vv rv r t0 :: (ownRC vv sp os ++ [])) ⟨Hp.le_refl _, rfl, .inr ⟨by trivial, vv, sp, os, rv, r, t0, hR, rfl⟩⟩
 by_cases k1 : r.kind = 1
 ·simp only [if_neg k9, if_pos k1]
  have hb := mbegin_spec ρ cb next vv rv r t0 sp os ⟨hn, hn2⟩ (by omega) hR.own
  rw [hol] at hb
  generalize hE : (if r.txn ≠ next ∨ next = 1073741824 then (2 : Int) else if 8 ≤ txns.length then 6 else 0) = E at *
  refine Zd Tryz.func53 rfl rfl rfl fun u R => ?_
  simp only [Zo, List.cons_append, List.nil_append]
  repeat' (first | (refine Zc (.func 93) ?_; refine qC rfl rfl (hb) ?_; rintro v ρ' L' hle ⟨rfl, ⟨e, he, rfl, rfl, G, rfl⟩ | ⟨he, rfl, vv', sp', ho', rfl⟩⟩ <;> (try simp only [kM, kN, kO])) | refine zV ?_ | intro _)
  ·repeat' (first | refine zV ?_ | intro _)
   exact qE (L' := [] ++ []) ⟨Hp.le_refl _, rfl, .inl ⟨he, [], rfl⟩⟩
  ·subst he
   have hst : stC (os ++ [⟨newX r, [], []⟩]) = stC os := by rw [stC_app, stC_one]; simp [newX, ZG]
   repeat' (first | refine zV ?_ | intro _)
   rw [← hst]
   refine qE (L' := Xd cb (next + 1) vv' rv r t0 :: (ownRC vv' sp' (os ++ [⟨newX r, [], []⟩]) ++ [])) ⟨Hp.le_refl _, rfl, .inr ⟨by trivial, vv', sp', os ++ [⟨newX r, [], []⟩], rv, r, t0, ⟨ho', fun o ho => ?_, ?_⟩, rfl⟩⟩
   ·rcases List.mem_append.1 ho with ho | ho
    ·exact hR.each o ho
    ·rw [List.mem_singleton] at ho
     subst ho
     exact ⟨OwnS.nil 2, OwnS.nil 1⟩
   ·rw [List.map_append, hR.says]; rfl
 simp only [if_neg k9, if_neg k1]
 have hat := atO_spec ρ next vv sp os (by omega) hR.own r.txn
 have hfa := fun i there (hA : AtT (os.map OT.x) r.txn i there) => find_at hA hR.says hG
 refine Zd Tryz.func53 rfl rfl rfl fun u R => ?_
 simp only [Zo, List.cons_append, List.nil_append]
 repeat' (first | refine zV ?_ | intro _)
 rename_i rb
 refine Zu (Zk _ _ ([Xd cb next vv rv r t0, [(rb, .cells ⟨Yx rv r⟩ 34 (0, 0))]])) (Zw (hT := tk) (Hp.le_refl _)) ?_
 all_goals (refine Zx 0 ?_; refine rNc 1 ?_; refine ZN 2 ?_; refine ZQ 3 ?_; refine ZN 4 ?_; refine ZQ 5 ?_)
 all_goals (refine Zj (i := 6) ?_; ((try refine Zh ?_); (first | (refine Zc (.func 54) ?_; refine qC rfl rfl (hat) ?_; rintro v ρ' L' hle ⟨rfl, i, there, rfl, hAt, rfl⟩ <;> (try simp only [kM, kN, kO])) | (refine Xv ?_; refine qQ ?_) | (refine ZF ?_; try intro _)) <;> ((try simp only [kM, kN, kO]); refine Zf ?_; refine Zi ?_)))
 all_goals (refine Zx 7 ?_; refine rEx 8 ?_; refine rAs 10 ?_)
 all_goals (refine Zj (i := 9) ?_; ((try refine Zh ?_); (first | (refine Zc (.func 54) ?_; refine qC rfl rfl (hat) ?_; rintro v ρ' L' hle ⟨rfl, i, there, rfl, hAt, rfl⟩ <;> (try simp only [kM, kN, kO])) | (refine Xv ?_; refine qQ ?_) | (refine ZF ?_; try intro _)) <;> ((try simp only [kM, kN, kO]); refine Zf ?_; refine Zi ?_)))
 all_goals (refine Zz ?_; refine rAs 11 ?_; refine Zv ?_)
 all_goals obtain ⟨hf1, hf2⟩ := hfa i there hAt
 all_goals cases there
 all_goals (first
  | (rw [hf2 rfl]; dsimp only [ownE, ownP]; (repeat' (first | refine zV ?_ | intro _)); exact qE (L' := [] ++ []) ⟨Hp.le_refl _, rfl, .inl ⟨by decide, [], rfl⟩⟩)
  | skip)
 all_goals obtain ⟨hi, hnum, hfind⟩ := hf1 rfl
 all_goals rw [hfind]
 all_goals dsimp only [ownE, ownP]
 all_goals obtain ⟨b, cap, rfl, e1, e2, e3⟩ := hR.own.blk (show 0 < os.length by omega)
 all_goals (
  have hot := hR.each _ (List.getElem_mem hi)
  have hi2 : i < txns.length := by omega
  have hti : txns[i] = (os[i].x).p := by simp [← hR.says]
  have hxg : TxG (os[i].x).p := by rw [← hti]; exact (hG.tx _ (List.getElem_mem hi2)).2.2
  have hti2 : (txns[i]).num = os[i].x.num := by rw [hti]
  obtain ⟨hE, hAl⟩ := among hi
  generalize os[i] = ot at *
  generalize os.take i = A at *
  generalize os.drop (i + 1) = B at *
  have hsl : ot.x.stack.length ≤ 1099511627776 := hxg.sl
  have hml : ot.x.marks.length ≤ 8 := hxg.ml
  have hPl : (txF A).length = 0 + i * 7 := by rw [txF_len, hAl]; omega
  have hfE : txF os = txF A ++ (Yk ot.x ++ txF B) := by rw [hE, txF_app, show txF (ot :: B) = txF ([ot] ++ B) from rfl, txF_app, txF_one]
  have hCe : ZG (.slice (some ⟨b, 0, none⟩) os.length cap) (txF os) sp 45 = blkC b (txF A) ot.x (txF B ++ sp) := by
   show [(b, Obj.cells ⟨txF os ++ sp⟩ 45 (0, 0))] = _
   rw [hfE]; simp
  have hst : stC os = stC A ++ ((stkC ot.x ot.ss ++ mrkC ot.x ot.ms) ++ stC B) := by rw [hE, stC_app, show stC (ot :: B) = stC ([ot] ++ B) from rfl, stC_app, stC_one]
  have hg3 : (txF A ++ txQ ot.x (txF B ++ sp))[0 + i * 7 + 3]? = some (.int .u64 ot.x.last) := q_get hPl rfl)
 all_goals (repeat' (first | refine zV ?_ | intro _))
 all_goals rw [hCe]
 all_goals by_cases hpv : r.prev = ot.x.last
 all_goals refine Zu (Zk _ _ ([Xd cb next (.slice (some ⟨b, 0, none⟩) os.length cap) rv r (some ⟨b, 0 + i * 7, none⟩), blkC b (txF A) ot.x (txF B ++ sp), [(rb, .cells ⟨Yx rv r⟩ 34 (0, 0))]])) (Zw (hT := tk) (Hp.le_refl _)) ?_
 all_goals (refine ZN 0 ?_; refine Zz ?_; refine ZQ 1 ?_; refine Zx 2 ?_; refine rNc 3 ?_; refine ZN 4 ?_; refine ZQ 5 ?_; refine rNc 6 ?_; refine ZN 7 ?_; refine ZQ 8 ?_; refine rCm 9 ?_; refine Zv ?_)
 all_goals (first
  | (rw [if_pos (show r.prev ≠ ot.x.last from hpv)]; (repeat' (first | refine zV ?_ | intro _)); exact qE (L' := [] ++ []) ⟨Hp.le_refl _, rfl, .inl ⟨by decide, [], rfl⟩⟩)
  | rw [if_neg (show ¬ r.prev ≠ ot.x.last from fun e => e hpv)])
 all_goals have hnil : Xm .i64 [] := by intro e he; simp at he
 all_goals (repeat' (first | (refine Ys rfl rfl rfl hnil (fun es1 ck1 i1 j1 => ?_)) | (refine Ys rfl rfl rfl i1 (fun es2 ck2 i2 j2 => ?_)) | (refine Ys rfl rfl rfl i2 (fun es3 ck3 i3 j3 => ?_)) | (refine Ys rfl rfl rfl i3 (fun es4 ck4 i4 j4 => ?_)) | (refine Ys rfl rfl rfl i4 (fun es5 ck5 i5 j5 => ?_)) | (refine Ys rfl rfl rfl i5 (fun es6 ck6 i6 j6 => ?_)) | (refine Ys rfl rfl rfl i6 (fun es7 ck7 i7 j7 => ?_)) | refine zV ?_ | intro _))
 all_goals (
  have hg0 : ∀ k : Int, XH [] k = none := fun _ => rfl
  have hg := j7 r.kind
  rw [j6, j5, j4, j3, j2, j1, hg0] at hg
  clear j1 j2 j3 j4 j5 j6 j7 i1 i2 i3 i4 i5 i6)
 all_goals refine Zu (Zk _ _ ([Xd cb next (.slice (some ⟨b, 0, none⟩) os.length cap) rv r (some ⟨b, 0 + i * 7, none⟩), [(rb, .cells ⟨Yx rv r⟩ 34 (0, 0))]])) (Zw (hT := tk) (Hp.le_refl _)) ?_
 all_goals (refine Zx 0 ?_; refine rNc 1 ?_; refine ZN 2 ?_; refine ZQ 3 ?_; refine ZN 4 ?_; refine ZQ 5 ?_; refine rNc 6 ?_; refine ZN 7 ?_)
 all_goals (refine Zj (i := 8) ?_; ((try refine Zh ?_); (first | (refine ZX (o := 0 + i * 7) (P := txF A) rfl rfl hPl rfl ?_) | (refine ZF ?_; try intro _)) <;> ((try simp only [kM, kN, kO]); refine Zf ?_; refine Zi ?_)))
 all_goals refine Zv ?_
 all_goals by_cases k8 : r.kind = 8
 ·rw [if_pos k8] at hg
  simp only [if_pos k8]
  have hst8 : stC (A ++ B) = stC A ++ stC B := stC_app A B
  have hne : ∀ o ∈ A ++ B, o.x.num ≠ ot.x.num := fun o ho => by
   have hp := hG.up
   dsimp only at hp
   rw [← hR.says, hE] at hp
   have hp2 := (List.pairwise_map (f := fun o : OT => o.x.p) (R := fun a b : TxP => a.num < b.num)).1 hp
   rw [List.pairwise_append, List.pairwise_cons] at hp2
   rcases List.mem_append.1 ho with ho | ho
   ·have q : o.x.num < ot.x.num := hp2.2.2 o ho ot (by simp)
    omega
   ·have q : ot.x.num < o.x.num := hp2.2.1.1 o ho
    omega
  have hfs : (A ++ (⟨{ ot.x with last := r.lsn }, ot.ss, ot.ms⟩ : OT) :: B).filter (fun t => !decide (t.x.num = ot.x.num)) = A ++ B := by
   rw [List.filter_append, List.filter_cons, if_neg (by simp), ← List.filter_append]
   exact List.filter_eq_self.2 (fun o ho => by simp [hne o ho])
  have hlo : (A ++ (⟨{ ot.x with last := r.lsn }, ot.ss, ot.ms⟩ : OT) :: B).length = os.length := by rw [hE]; simp
  have hf1E : txF (A ++ (⟨{ ot.x with last := r.lsn }, ot.ss, ot.ms⟩ : OT) :: B) = txF A ++ (Yk { ot.x with last := r.lsn } ++ txF B) := by rw [txF_app, show txF ((⟨{ ot.x with last := r.lsn }, ot.ss, ot.ms⟩ : OT) :: B) = txF ([(⟨{ ot.x with last := r.lsn }, ot.ss, ot.ms⟩ : OT)] ++ B) from rfl, txF_app, txF_one]
  have hown1 := hR.own.turn (xs' := txF (A ++ (⟨{ ot.x with last := r.lsn }, ot.ss, ot.ms⟩ : OT) :: B)) (by rw [txF_len, txF_len, hlo])
  have hPS : txF A ++ txQ { ot.x with last := r.lsn } (txF B ++ sp) = txF (A ++ (⟨{ ot.x with last := r.lsn }, ot.ss, ot.ms⟩ : OT) :: B) ++ sp := by rw [hf1E]; simp
  have hme := mend_spec ρ' cb next rv r b (0 + i * 7) cap (txF A) { ot.x with last := r.lsn } (txF B ++ sp) sp (A ++ (⟨{ ot.x with last := r.lsn }, ot.ss, ot.ms⟩ : OT) :: B) (by omega) (by rw [hlo]; exact hown1) hPl hPS
  rw [hfs, hlo] at hme
  have hCf : ZG (.slice (some ⟨b, 0, none⟩) os.length cap) (txF (A ++ (⟨{ ot.x with last := r.lsn }, ot.ss, ot.ms⟩ : OT) :: B)) sp 45 = [(b, .cells ⟨txF A ++ txQ { ot.x with last := r.lsn } (txF B ++ sp)⟩ 45 (0, 0))] := by rw [hPS]; rfl
  rw [hCf] at hme
  have hdr : (A ++ B).map (fun o => o.x.p) = (dropT ⟨next, txns⟩ r.txn).txns := by
   unfold dropT
   dsimp only
   rw [← hR.says, hE, List.map_append, List.map_append, List.map_cons, List.filter_append, List.filter_cons, if_neg (by simp [hnum]), ← List.filter_append, ← List.map_append]
   symm
   refine List.filter_eq_self.2 (fun t ht => ?_)
   obtain ⟨o, ho, rfl⟩ := List.mem_map.1 ht
   have := hne o ho
   rw [hnum] at this
   simpa using this
  rw [hst]
  repeat' (first | (refine Zc (.tmp 79) ?_; refine qC rfl rfl (hme) ?_; rintro v ρ' L' hle ⟨rfl, rfl, vv', sp', ho', rfl⟩ <;> (try simp only [kM, kN, kO])) | refine zV ?_ | intro _)
  refine te_split (stC A) _ ?_
  refine te_split (stkC ot.x ot.ss ++ mrkC ot.x ot.ms) (stC B) ?_
  refine te_merge (stC A) (stC B) ?_
  rw [← hst8]
  refine qE (L' := Xd cb next vv' rv r (some ⟨b, 0 + i * 7, none⟩) :: (ownRC vv' sp' (A ++ B) ++ [])) ⟨Hp.le_refl _, rfl, .inr ⟨by trivial, vv', sp', A ++ B, rv, r, _, ⟨ho', fun o ho => hR.each o ?_, hdr⟩, rfl⟩⟩
  rw [hE]
  rcases List.mem_append.1 ho with ho | ho
  ·exact List.mem_append_left _ ho
  ·exact List.mem_append_right _ (List.mem_cons_of_mem _ ho)
 ·rw [if_neg k8] at hg
  simp only [if_neg k8]
  have hkk : 2 ≤ r.kind ∧ r.kind ≤ 7 := by omega
  obtain ⟨hF, hS⟩ := meth_spec r hok hkk
  have hS := fun ρ1 (hle : Hp.le ρ' ρ1) => hS ρ1 cb next (.slice (some ⟨b, 0, none⟩) os.length cap) rv b (0 + i * 7) (txF A) { ot.x with last := r.lsn } (txF B ++ sp) ot.ss ot.ms hPl ⟨hot.s, hot.m⟩ hsl (by show ot.x.marks.length ≤ 100; omega) (h.mono hle) rfl
  have hgF : XH es7 r.kind = some (Value.func (.func (methF r.kind)) ⟨[.pointer (some ⟨cb, 0, none⟩)]⟩ ⟨[]⟩) := by
   rw [hg]
   have := methF_chain (f := fun F => some (Value.func (.func F) ⟨[.pointer (some ⟨cb, 0, none⟩)]⟩ ⟨[]⟩)) hkk
   rw [if_neg k8] at this
   exact this
  clear hg
  have hmy : mayT ({ ot.x with last := r.lsn } : Tx).p r = mayT ot.x.p r := rfl
  have hnx : XN ({ ot.x with last := r.lsn } : Tx).p r = XN ot.x.p r := rfl
  rw [hmy, hnx] at hS
  unfold MethR at hS
  generalize methF r.kind = F at *
  generalize hnx2 : XN ot.x.p r = nx at *
  have hnn : nx.num = ot.x.num := by rw [← hnx2, nextT_num]
  generalize mayT ot.x.p r = my at *
  rw [hst]
  refine te_split (stC A) _ ?_
  refine te_split (stkC ot.x ot.ss ++ mrkC ot.x ot.ms) (stC B) ?_
  refine te_split (stkC ot.x ot.ss) (mrkC ot.x ot.ms) ?_
  repeat' (first | (refine Zc (.tmp 79) ?_; refine qC rfl rfl (hS _ (Hp.le_refl _)) ?_; rintro v ρ' L' hle ⟨hl1, ⟨rfl, rfl, x', ss', ms', e4, hX', rfl⟩ | ⟨rfl, rfl, G, rfl⟩⟩ <;> (try simp only [kM, kN, kO])) | refine zV ?_ | intro _)
  ·repeat' (first | refine zV ?_ | intro _)
   have hlo : (A ++ (⟨x', ss', ms'⟩ : OT) :: B).length = os.length := by rw [hE]; simp
   have hf1E : txF (A ++ (⟨x', ss', ms'⟩ : OT) :: B) = txF A ++ (Yk x' ++ txF B) := by rw [txF_app, show txF ((⟨x', ss', ms'⟩ : OT) :: B) = txF ([(⟨x', ss', ms'⟩ : OT)] ++ B) from rfl, txF_app, txF_one]
   have hown1 := hR.own.turn (xs' := txF (A ++ (⟨x', ss', ms'⟩ : OT) :: B)) (by rw [txF_len, txF_len, hlo])
   have hCf : blkC b (txF A) x' (txF B ++ sp) = ZG (.slice (some ⟨b, 0, none⟩) os.length cap) (txF (A ++ (⟨x', ss', ms'⟩ : OT) :: B)) sp 45 := by
    show _ = [(b, Obj.cells ⟨txF (A ++ (⟨x', ss', ms'⟩ : OT) :: B) ++ sp⟩ 45 (0, 0))]
    rw [hf1E]; simp
   have hst9 : stC A ++ ((stkC x' ss' ++ mrkC x' ms') ++ stC B) = stC (A ++ (⟨x', ss', ms'⟩ : OT) :: B) := by rw [stC_app, show stC ((⟨x', ss', ms'⟩ : OT) :: B) = stC ([(⟨x', ss', ms'⟩ : OT)] ++ B) from rfl, stC_app, stC_one]
   have hsay : (A ++ (⟨x', ss', ms'⟩ : OT) :: B).map (fun o => o.x.p) = (putT ⟨next, txns⟩ nx).txns := by
    rw [putT_set hG hi2 (by rw [hti2]; exact hnn)]
    dsimp only
    rw [← hR.says, hE, List.map_append, List.map_cons, List.map_append, List.map_cons, List.set_append_right _ _ (by rw [List.length_map]; omega), List.length_map, hAl, Nat.sub_self, List.set_cons_zero, e4]
   have hCf2 : ∀ Y : SH, (blkC b (txF A) x' (txF B ++ sp) :: Y) = (ZG (.slice (some ⟨b, 0, none⟩) os.length cap) (txF (A ++ (⟨x', ss', ms'⟩ : OT) :: B)) sp 45 :: Y) := fun Y => by rw [hCf]
   rw [hCf2]
   refine te_merge (stkC x' ss') (mrkC x' ms') ?_
   refine te_merge (stkC x' ss' ++ mrkC x' ms') (stC B) ?_
   refine te_merge (stC A) ((stkC x' ss' ++ mrkC x' ms') ++ stC B) ?_
   rw [hst9]
   refine qE (L' := Xd cb next (.slice (some ⟨b, 0, none⟩) os.length cap) rv r (some ⟨b, 0 + i * 7, none⟩) :: (ownRC (.slice (some ⟨b, 0, none⟩) os.length cap) sp (A ++ (⟨x', ss', ms'⟩ : OT) :: B) ++ [])) ⟨hl1, rfl, .inr ⟨by trivial, _, sp, A ++ (⟨x', ss', ms'⟩ : OT) :: B, rv, r, _, ⟨by rw [hlo]; exact hown1, fun o ho => ?_, hsay⟩, rfl⟩⟩
   rcases List.mem_append.1 ho with ho | ho
   ·exact hR.each o (by rw [hE]; exact List.mem_append_left _ ho)
   ·rcases List.mem_cons.1 ho with rfl | ho
    ·exact hX'
    ·exact hR.each o (by rw [hE]; exact List.mem_append_right _ (List.mem_cons_of_mem _ ho))
  ·repeat' (first | refine zV ?_ | intro _)
   exact qE (L' := [] ++ []) ⟨hl1, rfl, .inl ⟨by decide, [], rfl⟩⟩
end Go.Proofs.E
