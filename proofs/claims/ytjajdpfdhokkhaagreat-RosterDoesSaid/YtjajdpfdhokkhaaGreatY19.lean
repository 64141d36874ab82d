/- The law RosterDoes. Part 19 of 20. -/
import Derived.Test.YtjajdpfdhokkhaaGreatY18C
namespace Go.Proofs.E
open Go
set_option linter.unusedVariables false
set_option linter.unusedSimpArgs false
set_option linter.unusedSectionVars false
set_option maxRecDepth 4000
set_option maxHeartbeats 1000000
attribute [local irreducible] Yl TL TC TE Spec Wq R1 Hp.le EnvLe TS TR YS Zs
def Wj (p : Yr) (r : Rc) : Int := if YF r then takesE p r else 220
def Xs (p : Yr) (r : Rc) : Yr := if Wj p r = 0 then WC p r else ⟨0, []⟩
abbrev XH (ρ : Hp) (v : SV) (ro : Ros) (rv : RV) (r : Rc) : Prop := Spec Tryz.prog 120 [.agg ⟨Yh v ro⟩, .agg ⟨Xh rv r⟩] ρ []
  (fun z ρ' L' => ρ.le ρ' ∧ ∃ (v' : SV) (ro' : Ros), z = .tuple ⟨[.agg ⟨Yh v' ro'⟩, .int .i64 (Wj ro.p r)]⟩ ∧ RosIn ρ' v' ro' ∧ ro'.p = Xs ro.p r ∧ L' = [])
theorem take18_bad (ρ : Hp) (v : SV) (ro : Ros) (h : RosIn ρ v ro) (rv : RV) (r : Rc) (hr : RcIn ρ rv r) (hok : YF r = false) : XH ρ v ro rv r := by
 have hri := Xx ρ rv r hr
 rw [hok] at hri
 have e : Wj ro.p r = 220 := by unfold Wj; rw [hok]; rfl
 have e2 : Xs ro.p r = ⟨0, []⟩ := by unfold Xs; rw [e]; rfl
 unfold XH
 rw [e, e2]
 refine Zg Tryz.func120 rfl rfl rfl fun u R => ?_
 simp only [Zx, List.cons_append, List.nil_append]
 repeat' (first | (refine Ze (.func 26) ?_; refine qC rfl rfl (hri) ?_; rintro v ρ' L' hle ⟨rfl, rfl, rfl⟩ <;> (try simp only [kM, kN, kO])) | (refine ZE ?_; refine Zo (Zd rfl) rfl rfl ?_) | (refine Zj ?_; first | (refine Zf ?_; refine qQ ?_) | refine Zn ?_) | refine Zb ?_ | (refine Zi ?_; refine Zv ?_) | (refine Zh ?_; refine Zu ?_) | intro _)
 exact qE (L' := []) ⟨Hp.le_refl _, Xn, ⟨0, []⟩, rfl, RosIn.z, rfl, rfl⟩
theorem take18_9 (ρ : Hp) (v : SV) (ro : Ros) (h : RosIn ρ v ro) (rv : RV) (r : Rc) (hr : RcIn ρ rv r) (hok : YF r = true) (k9 : r.kind = 9) : XH ρ v ro rv r := by
 have hri := Xx ρ rv r hr
 rw [hok] at hri
 have e : Wj ro.p r = 0 := by unfold Wj takesE; rw [hok, if_pos rfl, if_pos k9]
 have e2 : Xs ro.p r = ro.p := by unfold Xs WC; rw [e, if_pos rfl, if_pos k9]
 unfold XH
 rw [e, e2]
 refine Zg Tryz.func120 rfl rfl rfl fun u R => ?_
 simp only [Zx, List.cons_append, List.nil_append]
 repeat' (first | (refine Ze (.func 26) ?_; refine qC rfl rfl (hri) ?_; rintro v ρ' L' hle ⟨rfl, rfl, rfl⟩ <;> (try simp only [kM, kN, kO])) | (refine ZE ?_; refine Zo (Zd rfl) rfl rfl ?_) | (refine Zj ?_; first | (refine Zf ?_; refine qQ ?_) | refine Zn ?_) | refine Zb ?_ | (refine Zi ?_; refine Zv ?_) | (refine Zh ?_; refine Zu ?_) | intro _)
 exact qE (L' := []) ⟨Hp.le_refl _, v, ro, rfl, h, rfl, rfl⟩
def newY (r : Rc) : Tx := ⟨r.txn, 1, r.lsn, r.lsn, r.lsn, [], [], ⟨none, 0, 0⟩, ⟨none, 0, 0⟩⟩
theorem newY_in (ρ : Hp) (r : Rc) : Tx.In ρ (newY r) := ⟨AIn.nil, SIn.nil, Nat.zero_le _, Nat.zero_le _, Nat.le_refl _, Nat.le_refl _⟩
theorem take18_1 (ρ : Hp) (v : SV) (ro : Ros) (h : RosIn ρ v ro) (hG : RosG ro.p) (rv : RV) (r : Rc) (hr : RcIn ρ rv r) (hok : YF r = true) (k1 : r.kind = 1) : XH ρ v ro rv r := by
 have hri := Xx ρ rv r hr
 rw [hok] at hri
 have hl := h.at'.at'.len
 have hpl : ro.p.txns.length = v.n := by simp [Ros.p, hl]
 have hnx : ro.p.next = ro.next := rfl
 have hn1 := hG.n1
 have hn2 := hG.n2
 rw [hnx] at hn1 hn2
 have e : Wj ro.p r = if r.txn ≠ ro.next ∨ ro.next = 1073741824 then 2 else if 8 ≤ v.n then 6 else 0 := by unfold Wj takesE; rw [hok, if_pos rfl, if_neg (by omega), if_pos k1, hpl, hnx]
 by_cases c1 : r.txn ≠ ro.next ∨ ro.next = 1073741824
 ·rw [if_pos c1] at e
  have e2 : Xs ro.p r = ⟨0, []⟩ := by unfold Xs; rw [e]; rfl
  unfold XH
  rw [e, e2]
  refine Zg Tryz.func120 rfl rfl rfl fun u R => ?_
  simp only [Zx, List.cons_append, List.nil_append]
  by_cases c2 : r.txn = ro.next
  all_goals
   repeat' (first | (refine Ze (.func 26) ?_; refine qC rfl rfl (hri) ?_; rintro v ρ' L' hle ⟨rfl, rfl, rfl⟩ <;> (try simp only [kM, kN, kO])) | (refine ZE ?_; refine Zo (Zd rfl) rfl rfl ?_) | (refine Zj ?_; first | (refine Zf ?_; refine qQ ?_) | refine Zn ?_) | refine Zb ?_ | (refine Zi ?_; refine Zv ?_) | (refine Zh ?_; refine Zu ?_) | intro _)
   exact qE (L' := []) ⟨Hp.le_refl _, Xn, ⟨0, []⟩, rfl, RosIn.z, rfl, rfl⟩
 rw [if_neg c1] at e
 by_cases c3 : 8 ≤ v.n
 ·rw [if_pos c3] at e
  have e2 : Xs ro.p r = ⟨0, []⟩ := by unfold Xs; rw [e]; rfl
  unfold XH
  rw [e, e2]
  refine Zg Tryz.func120 rfl rfl rfl fun u R => ?_
  simp only [Zx, List.cons_append, List.nil_append]
  repeat' (first | (refine Ze (.func 26) ?_; refine qC rfl rfl (hri) ?_; rintro v ρ' L' hle ⟨rfl, rfl, rfl⟩ <;> (try simp only [kM, kN, kO])) | (refine ZE ?_; refine Zo (Zd rfl) rfl rfl ?_) | (refine Zj ?_; first | (refine Zf ?_; refine qQ ?_) | refine Zn ?_) | refine Zb ?_ | (refine Zi ?_; refine Zv ?_) | (refine Zh ?_; refine Zu ?_) | intro _)
  exact qE (L' := []) ⟨Hp.le_refl _, Xn, ⟨0, []⟩, rfl, RosIn.z, rfl, rfl⟩
 rw [if_neg c3] at e
 have e2 : Xs ro.p r = ⟨ro.next + 1, ro.p.txns ++ [newT r]⟩ := by unfold Xs WC; rw [e, if_pos rfl, if_neg (by omega), if_pos k1]
 have hcp : Spec Tryz.prog 38 [.agg ⟨Yh v ro⟩] ρ [] (fun z ρ' L' => ρ.le ρ' ∧ ∃ (va : Option Addr) (vc : Nat) (sp : List Value) (acc : List Tx), z = .agg ⟨[.int .i64 ro.next, .slice va acc.length vc]⟩ ∧ OwnS (.slice va acc.length vc) acc.length ((acc.map Ym).flatten) sp 7 ∧ acc.map Tx.p = ro.p.txns ∧ (∀ x ∈ acc, Tx.In ρ' x) ∧ acc.length ≤ 8 ∧ L' = [ZK (.slice va acc.length vc) ((acc.map Ym).flatten) sp 72]) := by
  refine (copyO18_spec ρ v ro h hG.rosB).mono ?_
  rintro z ρ' L' _ ⟨q1, vv, sp, acc, rfl, q3, q4, q5, rfl⟩
  obtain ⟨va, vc, rfl, _⟩ := q3.slice
  have := congrArg List.length q4
  have q8 := hG.len
  rw [List.length_map] at this
  exact ⟨q1, va, vc, sp, acc, rfl, q3, q4, q5, by omega, rfl⟩
 unfold XH
 rw [e, e2]
 refine Zg Tryz.func120 rfl rfl rfl fun u R => ?_
 simp only [Zx, List.cons_append, List.nil_append]
 repeat' (first | (refine Ze (.func 26) ?_; refine qC rfl rfl (hri) ?_; rintro v ρ' L' hle ⟨rfl, rfl, rfl⟩ <;> (try simp only [kM, kN, kO])) | (refine Ze (.func 38) ?_; refine qC rfl rfl (hcp) ?_; rintro v ρ' L' hle ⟨hz1, va, vc, sp, acc, rfl, hown, hap, hac, hal, rfl⟩ <;> (try simp only [kM, kN, kO])) | (refine ZL (css := [Ym (newY r)]) (sz := 7) rfl rfl rfl rfl (by simp) (by simp) rfl (fun bs => ?_); simp only [List.flatten_cons, List.flatten_nil, List.append_nil]) | (refine ZV (ys := Ym (newY r)) (m := 1) rfl rfl hown (hR := by repeat (first | exact ZH | apply ZG)) SrcV.lit rfl rfl (by decide) rfl (by omega) (by omega) rfl (fun v3 sp3 hown3 => ?_); obtain ⟨va3, vc3, rfl, _⟩ := hown3.slice) | (refine ZE ?_; refine Zo (Zd rfl) rfl rfl ?_) | (refine Zj ?_; first | (refine Zf ?_; refine qQ ?_) | refine Zn ?_) | refine Zb ?_ | (refine Zi ?_; refine Zv ?_) | (refine Zh ?_; refine Zu ?_) | intro _)
 refine Yk (ZK (.slice va3 (acc.length + 1) vc3) ((acc.map Ym).flatten ++ Ym (newY r)) sp3 72) (h := by repeat (first | exact ZH | apply ZG)) (fun ρ4 hle4 hf4 => ?_)
 have hm : (acc.map Ym).flatten ++ Ym (newY r) = ((acc ++ [newY r]).map Ym).flatten := by simp
 have hln : acc.length + 1 = (acc ++ [newY r]).length := by simp
 rw [hm, hln] at hown3 hf4
 obtain ⟨sa, sc, f1, hsc, hA2⟩ := hown3.aIn rfl (fun x _ => Wy x) hf4
 obtain ⟨f3, _, f4⟩ := Value.slice.inj f1
 subst f3; subst f4
 have hin4 : ∀ y ∈ acc ++ [newY r], Tx.In ρ4 y := fun y hy => by
  rcases List.mem_append.1 hy with hy | hy
  ·exact (hac y hy).mono hle4
  ·rw [List.mem_singleton.1 hy]; exact newY_in _ r
 have hpp : (⟨ro.next + 1, acc ++ [newY r]⟩ : Ros).p = ⟨ro.next + 1, ro.p.txns ++ [newT r]⟩ := by
  show (⟨ro.next + 1, (acc ++ [newY r]).map Tx.p⟩ : Yr) = _
  rw [List.map_append, hap]; rfl
 exact qE (L' := []) (hle := Hp.le_trans hz1 hle4) ⟨Hp.le_trans hz1 hle4, ⟨va3, acc.length + 1, vc3⟩, ⟨ro.next + 1, acc ++ [newY r]⟩, rfl, ⟨⟨by rw [hln]; exact hA2, by show acc.length + 1 ≤ 1000000; omega, by rw [hln]; exact hsc⟩, hin4⟩, hpp, rfl⟩
theorem takeT_e (p : Yr) (r : Rc) (hok : YF r = true) (k2 : 2 ≤ r.kind) (k8 : r.kind ≤ 8) : Wj p r = ownE (Yf p r.txn) r := by
 unfold Wj takesE; rw [hok, if_pos rfl, if_neg (by omega), if_neg (by omega)]
theorem takeT_p (p : Yr) (r : Rc) (hok : YF r = true) (k2 : 2 ≤ r.kind) (k8 : r.kind ≤ 8) : Xs p r = if ownE (Yf p r.txn) r = 0 then ownP p (Yf p r.txn) r else ⟨0, []⟩ := by
 unfold Xs; rw [takeT_e p r hok k2 k8]; unfold WC; rw [if_neg (show ¬ r.kind = 9 by omega), if_neg (show ¬ r.kind = 1 by omega)]
theorem take18_n (ρ : Hp) (v : SV) (ro : Ros) (h : RosIn ρ v ro) (rv : RV) (r : Rc) (hr : RcIn ρ rv r) (hok : YF r = true) (k2 : 2 ≤ r.kind) (k8 : r.kind ≤ 8) (hf0 : Yf ro.p r.txn = none) : XH ρ v ro rv r := by
 have hri := Xx ρ rv r hr
 rw [hok] at hri
 have e := takeT_e ro.p r hok k2 k8
 have e2 := takeT_p ro.p r hok k2 k8
 rw [hf0] at e e2
 replace e : Wj ro.p r = 4 := e
 replace e2 : Xs ro.p r = ⟨0, []⟩ := e2
 have hf := find18_spec ρ v ro h r.txn
 have hf2 : Spec Tryz.prog 53 [.agg ⟨Yh v ro⟩, .int .i64 r.txn] ρ [] (fun z ρ' L' => z = .tuple ⟨[.agg ⟨Ym zX⟩, .bool false]⟩ ∧ ρ' = ρ ∧ L' = []) := by
  refine hf.mono ?_
  rintro z ρ' L' _ ⟨q1, x, b, q2, q3, ⟨t', q4, _⟩ | ⟨_, q5, q6⟩, q7⟩
  ·rw [hf0] at q4; cases q4
  ·exact ⟨by rw [q2, q5, q6], q1, q7⟩
 unfold XH
 rw [e, e2]
 refine Zg Tryz.func120 rfl rfl rfl fun u R => ?_
 simp only [Zx, List.cons_append, List.nil_append]
 repeat' (first | (refine Ze (.func 26) ?_; refine qC rfl rfl (hri) ?_; rintro v ρ' L' hle ⟨rfl, rfl, rfl⟩ <;> (try simp only [kM, kN, kO])) | (refine Ze (.func 53) ?_; refine qC rfl rfl (hf2) ?_; rintro v ρ' L' hle ⟨rfl, rfl, rfl⟩ <;> (try simp only [kM, kN, kO])) | (refine ZE ?_; refine Zo (Zd rfl) rfl rfl ?_) | (refine Zj ?_; first | (refine Zf ?_; refine qQ ?_) | refine Zn ?_) | refine Zb ?_ | (refine Zi ?_; refine Zv ?_) | (refine Zh ?_; refine Zu ?_) | intro _)
 exact qE (L' := []) ⟨Hp.le_refl _, Xn, ⟨0, []⟩, rfl, RosIn.z, rfl, rfl⟩
theorem find18_t (ρ : Hp) (v : SV) (ro : Ros) (h : RosIn ρ v ro) (hB : RosB ro.p) (num : Int) {t : TxP} (ho : Yf ro.p num = some t) : Spec Tryz.prog 53 [.agg ⟨Yh v ro⟩, .int .i64 num] ρ []
  (fun z ρ' L' => ρ' = ρ ∧ ∃ x, z = .tuple ⟨[.agg ⟨Ym x⟩, .bool true]⟩ ∧ Tx.In ρ' x ∧ x.p = t ∧ (x.last = t.last ∧ x.sv.n ≤ 1099511627776 ∧ x.mv.n ≤ 1099511627776) ∧ L' = []) := by
 refine (find18_some ρ v ro h num ho).mono ?_
 rintro z ρ' L' _ ⟨q1, x, q2, q3, q4, q5⟩
 have hb := hB t (findT_mem ho).1
 refine ⟨q1, x, q2, q3, q4, ⟨congrArg TxP.last q4, ?_, ?_⟩, q5⟩
 ·rw [← q3.s.len, show x.stack = t.stack from congrArg TxP.stack q4]; exact hb.1
 ·rw [← q3.m.len, show x.marks = t.marks from congrArg TxP.marks q4]; exact hb.2
theorem take18_p (ρ : Hp) (v : SV) (ro : Ros) (h : RosIn ρ v ro) (hB : RosB ro.p) (rv : RV) (r : Rc) (hr : RcIn ρ rv r) (hok : YF r = true) (k2 : 2 ≤ r.kind) (k8 : r.kind ≤ 8) {t : TxP} (hf0 : Yf ro.p r.txn = some t) (hp : r.prev ≠ t.last) : XH ρ v ro rv r := by
 have hri := Xx ρ rv r hr
 rw [hok] at hri
 have e := takeT_e ro.p r hok k2 k8
 have e2 := takeT_p ro.p r hok k2 k8
 have e3 : ownE (some t) r = 2 := if_pos hp
 rw [hf0, e3] at e e2
 replace e2 : Xs ro.p r = ⟨0, []⟩ := e2
 have hf := find18_t ρ v ro h hB r.txn hf0
 unfold XH
 rw [e, e2]
 refine Zg Tryz.func120 rfl rfl rfl fun u R => ?_
 simp only [Zx, List.cons_append, List.nil_append]
 repeat' (first | (refine Ze (.func 26) ?_; refine qC rfl rfl (hri) ?_; rintro v ρ' L' hle ⟨rfl, rfl, rfl⟩ <;> (try simp only [kM, kN, kO])) | (refine Ze (.func 53) ?_; refine qC rfl rfl (hf) ?_; rintro v ρ' L' hle ⟨rfl, x, rfl, hx, hxp, ⟨hxl, hxs, hxm⟩, rfl⟩ <;> (try simp only [kM, kN, kO])) | (refine ZE ?_; refine Zo (Zd rfl) rfl rfl ?_) | (refine Zj ?_; first | (refine Zf ?_; refine qQ ?_) | refine Zn ?_) | refine Zb ?_ | (refine Zi ?_; refine Zv ?_) | (refine Zh ?_; refine Zu ?_) | intro _)
 exact qE (L' := []) ⟨Hp.le_refl _, Xn, ⟨0, []⟩, rfl, RosIn.z, rfl, rfl⟩
theorem take18_8 (ρ : Hp) (v : SV) (ro : Ros) (h : RosIn ρ v ro) (hB : RosB ro.p) (rv : RV) (r : Rc) (hr : RcIn ρ rv r) (hok : YF r = true) (k8 : r.kind = 8) {t : TxP} (hf0 : Yf ro.p r.txn = some t) (hp : r.prev = t.last) : XH ρ v ro rv r := by
 have hri := Xx ρ rv r hr
 rw [hok] at hri
 have e := takeT_e ro.p r hok (by omega) (by omega)
 have e2 := takeT_p ro.p r hok (by omega) (by omega)
 have e3 : ownE (some t) r = 0 := (if_neg (fun c => c hp)).trans (if_pos k8)
 have e4 : ownP ro.p (some t) r = dropT ro.p r.txn := if_pos k8
 rw [hf0, e3] at e e2
 rw [if_pos rfl, e4] at e2
 have hf := find18_t ρ v ro h hB r.txn hf0
 have hnum := (findT_mem hf0).2
 have hput : ∀ ρ2 x, RosIn ρ2 v ro → Tx.In ρ2 x → x.p = t → Spec Tryz.prog 203 [.agg ⟨Yh v ro⟩, .agg ⟨Ym x⟩, .bool true] ρ2 [] (fun z ρ' L' => ρ2.le ρ' ∧ ∃ (v' : SV) (r' : Ros), z = .agg ⟨Yh v' r'⟩ ∧ RosIn ρ' v' r' ∧ r'.p = dropT ro.p r.txn ∧ L' = []) := fun ρ2 x h1 h2 h3 => by
  have := put18_spec ρ2 v ro h1 x h2 true
  rwa [h3, putO_true, hnum] at this
 unfold XH
 rw [e, e2]
 refine Zg Tryz.func120 rfl rfl rfl fun u R => ?_
 simp only [Zx, List.cons_append, List.nil_append]
 repeat' (first | (refine Ze (.func 26) ?_; refine qC rfl rfl (hri) ?_; rintro v ρ' L' hle ⟨rfl, rfl, rfl⟩ <;> (try simp only [kM, kN, kO])) | (refine Ze (.func 53) ?_; refine qC rfl rfl (hf) ?_; rintro v ρ' L' hle ⟨rfl, x, rfl, hx, hxp, ⟨hxl, hxs, hxm⟩, rfl⟩ <;> (try simp only [kM, kN, kO])) | (refine Ze (.func 204) ?_; refine qC rfl rfl ((taken8_spec _ x rv r k8)) ?_; rintro v ρ' L' hle ⟨rfl, rfl, rfl⟩ <;> (try simp only [kM, kN, kO])) | (refine Ze (.func 203) ?_; refine qC rfl rfl (hput _ x h hx hxp) ?_; rintro v ρ' L' hle ⟨hz1, v1, r1, rfl, hR1, hp1, rfl⟩ <;> (try simp only [kM, kN, kO])) | (refine ZE ?_; refine Zo (Zd rfl) rfl rfl ?_) | (refine Zj ?_; first | (refine Zf ?_; refine qQ ?_) | refine Zn ?_) | refine Zb ?_ | (refine Zi ?_; refine Zv ?_) | (refine Zh ?_; refine Zu ?_) | intro _)
 exact qE (L' := []) ⟨hz1, v1, r1, rfl, hR1, hp1, rfl⟩
theorem take18_x (ρ : Hp) (v : SV) (ro : Ros) (h : RosIn ρ v ro) (hB : RosB ro.p) (rv : RV) (r : Rc) (hr : RcIn ρ rv r) (hok : YF r = true) (k2 : 2 ≤ r.kind) (k7 : r.kind ≤ 7) {t : TxP} (hf0 : Yf ro.p r.txn = some t) (hp : r.prev = t.last) (hm : ¬ mayT t r = true) : XH ρ v ro rv r := by
 have hri := Xx ρ rv r hr
 rw [hok] at hri
 have e := takeT_e ro.p r hok k2 (by omega)
 have e2 := takeT_p ro.p r hok k2 (by omega)
 have e3 : ownE (some t) r = 2 := (if_neg (fun c => c hp)).trans ((if_neg (by omega)).trans (if_neg hm))
 rw [hf0, e3] at e e2
 replace e2 : Xs ro.p r = ⟨0, []⟩ := e2
 have hf := find18_t ρ v ro h hB r.txn hf0
 unfold XH
 rw [e, e2]
 refine Zg Tryz.func120 rfl rfl rfl fun u R => ?_
 simp only [Zx, List.cons_append, List.nil_append]
 repeat' (first | (refine Ze (.func 26) ?_; refine qC rfl rfl (hri) ?_; rintro v ρ' L' hle ⟨rfl, rfl, rfl⟩ <;> (try simp only [kM, kN, kO])) | (refine Ze (.func 53) ?_; refine qC rfl rfl (hf) ?_; rintro v ρ' L' hle ⟨rfl, x, rfl, hx, hxp, ⟨hxl, hxs, hxm⟩, rfl⟩ <;> (try simp only [kM, kN, kO])) | (refine Ze (.func 204) ?_; refine qC rfl rfl ((takenN_spec _ x rv r (by omega) k2 k7 (by rw [hxp]; exact hm))) ?_; rintro v ρ' L' hle ⟨rfl, rfl, rfl⟩ <;> (try simp only [kM, kN, kO])) | (refine ZE ?_; refine Zo (Zd rfl) rfl rfl ?_) | (refine Zj ?_; first | (refine Zf ?_; refine qQ ?_) | refine Zn ?_) | refine Zb ?_ | (refine Zi ?_; refine Zv ?_) | (refine Zh ?_; refine Zu ?_) | intro _)
 exact qE (L' := []) ⟨Hp.le_refl _, Xn, ⟨0, []⟩, rfl, RosIn.z, rfl, rfl⟩
theorem take18_y (ρ : Hp) (v : SV) (ro : Ros) (h : RosIn ρ v ro) (hB : RosB ro.p) (rv : RV) (r : Rc) (hr : RcIn ρ rv r) (hok : YF r = true) (k2 : 2 ≤ r.kind) (k7 : r.kind ≤ 7) {t : TxP} (hf0 : Yf ro.p r.txn = some t) (hp : r.prev = t.last) (hm : mayT t r = true) : XH ρ v ro rv r := by
 have hri := Xx ρ rv r hr
 rw [hok] at hri
 have e := takeT_e ro.p r hok k2 (by omega)
 have e2 := takeT_p ro.p r hok k2 (by omega)
 have e3 : ownE (some t) r = 0 := (if_neg (fun c => c hp)).trans ((if_neg (by omega)).trans (if_pos hm))
 have e4 : ownP ro.p (some t) r = putT ro.p (XG t r) := if_neg (by omega)
 rw [hf0, e3] at e e2
 rw [if_pos rfl, e4] at e2
 have hf := find18_t ρ v ro h hB r.txn hf0
 have hput : ∀ ρ2 y, RosIn ρ2 v ro → Tx.In ρ2 y → y.p = XG t r → Spec Tryz.prog 203 [.agg ⟨Yh v ro⟩, .agg ⟨Ym y⟩, .bool false] ρ2 [] (fun z ρ' L' => ρ2.le ρ' ∧ ∃ (v' : SV) (r' : Ros), z = .agg ⟨Yh v' r'⟩ ∧ RosIn ρ' v' r' ∧ r'.p = putT ro.p (XG t r) ∧ L' = []) := fun ρ2 x h1 h2 h3 => by
  have := put18_spec ρ2 v ro h1 x h2 false
  rwa [h3, putO_false] at this
 unfold XH
 rw [e, e2]
 refine Zg Tryz.func120 rfl rfl rfl fun u R => ?_
 simp only [Zx, List.cons_append, List.nil_append]
 repeat' (first | (refine Ze (.func 26) ?_; refine qC rfl rfl (hri) ?_; rintro v ρ' L' hle ⟨rfl, rfl, rfl⟩ <;> (try simp only [kM, kN, kO])) | (refine Ze (.func 53) ?_; refine qC rfl rfl (hf) ?_; rintro v ρ' L' hle ⟨rfl, x, rfl, hx, hxp, ⟨hxl, hxs, hxm⟩, rfl⟩ <;> (try simp only [kM, kN, kO])) | (refine Ze (.func 204) ?_; refine qC rfl rfl ((takenY_spec _ x hx hxs hxm rv r hr hok (by omega) k2 k7 (by rw [hxp]; exact hm))) ?_; rintro v ρ' L' hle ⟨hz1, y, rfl, hy, hyp, rfl⟩ <;> (try simp only [kM, kN, kO])) | (refine Ze (.func 203) ?_; refine qC rfl rfl (hput _ y (h.mono hz1) hy (by rw [hyp, hxp])) ?_; rintro v ρ' L' hle ⟨hz2, v1, r1, rfl, hR1, hp1, rfl⟩ <;> (try simp only [kM, kN, kO])) | (refine ZE ?_; refine Zo (Zd rfl) rfl rfl ?_) | (refine Zj ?_; first | (refine Zf ?_; refine qQ ?_) | refine Zn ?_) | refine Zb ?_ | (refine Zi ?_; refine Zv ?_) | (refine Zh ?_; refine Zu ?_) | intro _)
 exact qE (L' := []) (hle := Hp.le_trans hz1 hz2) ⟨Hp.le_trans hz1 hz2, v1, r1, rfl, hR1, hp1, rfl⟩
theorem take18_spec (ρ : Hp) (v : SV) (ro : Ros) (h : RosIn ρ v ro) (hG : RosG ro.p) (rv : RV) (r : Rc) (hr : RcIn ρ rv r) : XH ρ v ro rv r := by
 cases hok : YF r
 ·exact take18_bad ρ v ro h rv r hr hok
 have hk := (We hok).kind
 by_cases k9 : r.kind = 9
 ·exact take18_9 ρ v ro h rv r hr hok k9
 by_cases k1 : r.kind = 1
 ·exact take18_1 ρ v ro h hG rv r hr hok k1
 cases hf : Yf ro.p r.txn with
 | none => exact take18_n ρ v ro h rv r hr hok (by omega) (by omega) hf
 | some t =>
  by_cases hp : r.prev = t.last
  ·by_cases k8 : r.kind = 8
   ·exact take18_8 ρ v ro h hG.rosB rv r hr hok k8 hf hp
   ·cases hm : mayT t r
    ·exact take18_x ρ v ro h hG.rosB rv r hr hok (by omega) (by omega) hf hp (by rw [hm]; exact Bool.false_ne_true)
    ·exact take18_y ρ v ro h hG.rosB rv r hr hok (by omega) (by omega) hf hp hm
  ·exact take18_p ρ v ro h hG.rosB rv r hr hok (by omega) (by omega) hf hp
theorem OwnR.z : OwnR (.slice none 0 0) [] [] [] := ⟨OwnS.nil 7, by simp, rfl⟩
theorem zperm : ([] : SH).flatten.Perm (Xi (.slice none 0 0) [] []).flatten := List.Perm.refl _
theorem takeO_spec (ρ : Hp) (v : SV) (ro : Ros) (h : RosIn ρ v ro) (rv : RV) (r : Rc) (hr : RcIn ρ rv r) : Spec Tryz.prog 60 [.agg ⟨Yh v ro⟩, .agg ⟨Xh rv r⟩] ρ []
  (fun z ρ' L' => ρ.le ρ' ∧ ∃ (s : SV) (sp : List Value) (os : List OT), z = .tuple ⟨[.agg ⟨[.int .i64 (XK ro.p r).next, .slice s.a s.n s.c]⟩, .int .i64 (XY ro.p r)]⟩ ∧ OwnR (.slice s.a s.n s.c) sp os (XK ro.p r).txns ∧ L' = Xi (.slice s.a s.n s.c) sp os) := by
 refine (take_spec ρ v ro h rv r hr).monoP ?_
 rintro z ρ' L' _ ⟨hl1, ⟨he, rfl, rfl⟩ | ⟨he, vv, sp, os, hR, rfl, rfl⟩⟩
 ·have e : XK ro.p r = ⟨0, []⟩ := by unfold XK; rw [if_neg he]
  rw [e]
  exact ⟨_, zperm, hl1, Xn, [], [], rfl, OwnR.z, rfl⟩
 ·obtain ⟨va, vc, rfl, _⟩ := hR.own.slice
  exact ⟨_, .refl _, hl1, ⟨va, os.length, vc⟩, sp, os, by rw [he], hR, rfl⟩
theorem markO_spec (ρ : Hp) (v : SV) (ro : Ros) (h : RosIn ρ v ro) (num : Int) : Spec Tryz.prog 57 [.agg ⟨Yh v ro⟩, .int .i64 num] ρ []
  (fun z ρ' L' => ρ.le ρ' ∧ ∃ (s : SV) (sp : List Value) (os : List OT), z = .tuple ⟨[.agg ⟨[.int .i64 (XX ro.p num).next, .slice s.a s.n s.c]⟩, .int .i64 (markK ro.p num), .int .i64 (markE ro.p num)]⟩ ∧ OwnR (.slice s.a s.n s.c) sp os (XX ro.p num).txns ∧ L' = Xi (.slice s.a s.n s.c) sp os) := by
 refine (mark_spec ρ v ro h num).monoP ?_
 rintro z ρ' L' _ ⟨hl1, ⟨he, rfl, rfl⟩ | ⟨he, vv, sp, os, hR, rfl, rfl⟩⟩
 ·have e : XX ro.p num = ⟨0, []⟩ := by unfold XX asksP; exact if_neg he
  have e1 : markK ro.p num = 0 := by unfold markK; rw [if_neg he]
  rw [e, e1]
  exact ⟨_, zperm, hl1, Xn, [], [], rfl, OwnR.z, rfl⟩
 ·obtain ⟨va, vc, rfl, _⟩ := hR.own.slice
  have e1 : markK ro.p num = marksN ro.p num := by unfold markK; rw [if_pos he]
  exact ⟨_, .refl _, hl1, ⟨va, os.length, vc⟩, sp, os, by rw [he, e1], hR, rfl⟩
theorem cutO_spec (ρ : Hp) (v : SV) (ro : Ros) (h : RosIn ρ v ro) (num n : Int) (hn : i64in n) : Spec Tryz.prog 58 [.agg ⟨Yh v ro⟩, .int .i64 num, .int .i64 n] ρ []
  (fun z ρ' L' => ρ.le ρ' ∧ ∃ (s : SV) (sp : List Value) (os : List OT), z = .tuple ⟨[.agg ⟨[.int .i64 (cutP ro.p num n).next, .slice s.a s.n s.c]⟩, .int .i64 (cutE ro.p num n)]⟩ ∧ OwnR (.slice s.a s.n s.c) sp os (cutP ro.p num n).txns ∧ L' = Xi (.slice s.a s.n s.c) sp os) := by
 refine (cutR_spec ρ v ro h num n hn).monoP ?_
 rintro z ρ' L' _ ⟨hl1, ⟨he, rfl, rfl⟩ | ⟨he, vv, sp, os, hR, rfl, rfl⟩⟩
 ·have e : cutP ro.p num n = ⟨0, []⟩ := by unfold cutP asksP; exact if_neg he
  rw [e]
  exact ⟨_, zperm, hl1, Xn, [], [], rfl, OwnR.z, rfl⟩
 ·obtain ⟨va, vc, rfl, _⟩ := hR.own.slice
  exact ⟨_, .refl _, hl1, ⟨va, os.length, vc⟩, sp, os, by rw [he], hR, rfl⟩
theorem recL_ex (p : Yr) : ∃ L : Nat, IntKind.u64.wrap (((XZ p : Nat) : Int) + 1) = (L : Int) ∧ (XW p = true → L = XZ p + 1) := by
 have e : IntKind.u64.wrap (((XZ p : Nat) : Int) + 1) = (((XZ p : Nat) : Int) + 1) % 18446744073709551616 := rfl
 refine ⟨((XZ p + 1) % 18446744073709551616), by rw [e]; omega, fun h => ?_⟩
 have := lastP_le (WP.1 h)
 omega
theorem takeL (o : OpD) (p : Yr) {L : Nat} (h : XW p = true → L = XZ p + 1) : XY p (Ws o p L) = XY p (recOf o p) ∧ XK p (Ws o p L) = XK p (recOf o p) := by
 cases hk : XW p
 ·have e : ∀ r, XY p r = 280 := fun r => by unfold XY; rw [hk]; rfl
  have e2 : ∀ r, XK p r = ⟨0, []⟩ := fun r => by unfold XK; rw [e r]; rfl
  exact ⟨(e _).trans (e _).symm, (e2 _).trans (e2 _).symm⟩
 ·rw [h hk, recOfL_eq]; exact ⟨rfl, rfl⟩
theorem runO_spec (ρ : Hp) (o : OpD) (v : SV) (ro : Ros) (h : RosIn ρ v ro) (hn : i64in o.n) (hr : RcIn ρ o.rv o.rc) : Spec Tryz.prog 39 [.agg ⟨opV o⟩, .agg ⟨Yh v ro⟩] ρ [] (fun z ρ' L' => ρ.le ρ' ∧ ∃ (s : SV) (sp : List Value) (os : List OT), z = .agg ⟨[.int .i64 (runP o ro.p).next, .slice s.a s.n s.c, .int .i64 (runN o ro.p), .int .i64 (runE o ro.p)]⟩ ∧ OwnR (.slice s.a s.n s.c) sp os (runP o ro.p).txns ∧ L' = Xi (.slice s.a s.n s.c) sp os) := by
 obtain ⟨L, hW, hL⟩ := recL_ex ro.p
 have hnum := onum_spec ρ o v ro h
 have hrec := orecL_spec ρ o v ro h L hW
 have hri := recOfL_in (p := ro.p) (L := L) hr
 have hM := markO_spec ρ v ro h (opN o ro.p)
 have hC := cutO_spec ρ v ro h (opN o ro.p) o.n hn
 have hT := takeO_spec ρ v ro h o.rv (Ws o ro.p L) hri
 obtain ⟨hL1, hL2⟩ := takeL o ro.p hL
 rw [hL1, hL2] at hT
 unfold runN runE runP
 generalize hk : opK o = k
 unfold opK at hk
 generalize Ws o ro.p L = rr at *
 generalize opN o ro.p = nn at *
 refine Zg Tryz.func39 rfl rfl rfl fun u R => ?_
 simp only [Zx, List.cons_append, List.nil_append]
 by_cases k5 : k = 5
 ·simp only [if_pos k5]
  repeat' (first | (refine ZE ?_; refine Zo (Zd rfl) rfl rfl ?_) | (refine Zj ?_; first | (refine Zf ?_; refine qQ ?_) | refine Zn ?_) | refine Zb ?_ | (refine Zi ?_; refine Zv ?_) | (refine Zh ?_; refine Zu ?_) | intro _)
  refine ZD (Zs _ _ ([[(_, .cells ⟨Yh v ro⟩ 34 (0, 0))], [(_, .cells ⟨opV o⟩ 65 (0, 0))]])) (Zz (hT := tk) (Hp.le_refl _)) ?_
  all_goals (refine ZX 0 ?_; refine ZX 1 ?_; refine ZX 2 ?_)
  all_goals (refine Zp (i := 3) ?_; ((try refine Zk ?_); (first | (refine Ze (.func 117) ?_; refine qC rfl rfl (hnum) ?_; rintro v ρ' L' hle ⟨rfl, rfl, rfl⟩ <;> (try simp only [kM, kN, kO])) | (refine Zf ?_; refine qQ ?_) | (refine Zn ?_; try intro _)) <;> ((try simp only [kM, kN, kO]); refine Zb ?_; refine Zl ?_)))
  all_goals (refine Zp (i := 4) ?_; ((try refine Zk ?_); (first | (refine Ze (.func 57) ?_; refine qC rfl rfl (hM) ?_; rintro v ρ' L' hle ⟨hz1, s1, sp1, os1, rfl, hR1, rfl⟩ <;> (try simp only [kM, kN, kO])) | (refine Zf ?_; refine qQ ?_) | (refine Zn ?_; try intro _)) <;> ((try simp only [kM, kN, kO]); refine Zb ?_; refine Zl ?_)))
  all_goals (refine ZT 5 ?_; refine rEx 6 ?_; refine ZS 9 ?_)
  all_goals (refine rStep3 (i := 7) (j := 8) (k := 10) ?_ ?_ ?_ <;> ((try refine Zk ?_); (first | (refine Ze (.func 117) ?_; refine qC rfl rfl (hnum) ?_; rintro v ρ' L' hle ⟨rfl, rfl, rfl⟩ <;> (try simp only [kM, kN, kO])) | (refine Ze (.func 57) ?_; refine qC rfl rfl (hM) ?_; rintro v ρ' L' hle ⟨hz1, s1, sp1, os1, rfl, hR1, rfl⟩ <;> (try simp only [kM, kN, kO])) | (refine Zf ?_; refine qQ ?_) | (refine Zn ?_; try intro _)) <;> ((try simp only [kM, kN, kO]); refine Zb ?_; refine Zl ?_)))
  all_goals (first | (refine Ye (i := 8) (j := 10) ?_ ?_ <;> ((try refine Zk ?_); (first | (refine Ze (.func 117) ?_; refine qC rfl rfl (hnum) ?_; rintro v ρ' L' hle ⟨rfl, rfl, rfl⟩ <;> (try simp only [kM, kN, kO])) | (refine Ze (.func 57) ?_; refine qC rfl rfl (hM) ?_; rintro v ρ' L' hle ⟨hz1, s1, sp1, os1, rfl, hR1, rfl⟩ <;> (try simp only [kM, kN, kO])) | (refine Zf ?_; refine qQ ?_) | (refine Zn ?_; try intro _)) <;> ((try simp only [kM, kN, kO]); refine Zb ?_; refine Zl ?_))) | (refine Ye (i := 7) (j := 10) ?_ ?_ <;> ((try refine Zk ?_); (first | (refine Ze (.func 117) ?_; refine qC rfl rfl (hnum) ?_; rintro v ρ' L' hle ⟨rfl, rfl, rfl⟩ <;> (try simp only [kM, kN, kO])) | (refine Ze (.func 57) ?_; refine qC rfl rfl (hM) ?_; rintro v ρ' L' hle ⟨hz1, s1, sp1, os1, rfl, hR1, rfl⟩ <;> (try simp only [kM, kN, kO])) | (refine Zf ?_; refine qQ ?_) | (refine Zn ?_; try intro _)) <;> ((try simp only [kM, kN, kO]); refine Zb ?_; refine Zl ?_))) | (refine Ye (i := 7) (j := 8) ?_ ?_ <;> ((try refine Zk ?_); (first | (refine Ze (.func 117) ?_; refine qC rfl rfl (hnum) ?_; rintro v ρ' L' hle ⟨rfl, rfl, rfl⟩ <;> (try simp only [kM, kN, kO])) | (refine Ze (.func 57) ?_; refine qC rfl rfl (hM) ?_; rintro v ρ' L' hle ⟨hz1, s1, sp1, os1, rfl, hR1, rfl⟩ <;> (try simp only [kM, kN, kO])) | (refine Zf ?_; refine qQ ?_) | (refine Zn ?_; try intro _)) <;> ((try simp only [kM, kN, kO]); refine Zb ?_; refine Zl ?_))))
  all_goals (first | refine ZS 11 ?_ | (refine Zp (i := 10) ?_; ((try refine Zk ?_); (first | (refine Zf ?_; refine qQ ?_) | (refine Zn ?_; try intro _)) <;> ((try simp only [kM, kN, kO]); refine Zb ?_; refine Zl ?_))) | (refine Zp (i := 7) ?_; ((try refine Zk ?_); (first | (refine Ze (.func 117) ?_; refine qC rfl rfl (hnum) ?_; rintro v ρ' L' hle ⟨rfl, rfl, rfl⟩ <;> (try simp only [kM, kN, kO])) | (refine Ze (.func 57) ?_; refine qC rfl rfl (hM) ?_; rintro v ρ' L' hle ⟨hz1, s1, sp1, os1, rfl, hR1, rfl⟩ <;> (try simp only [kM, kN, kO])) | (refine Zf ?_; refine qQ ?_) | (refine Zn ?_; try intro _)) <;> ((try simp only [kM, kN, kO]); refine Zb ?_; refine Zl ?_))))
  all_goals (first | refine ZS 11 ?_ | (refine Ye (i := 8) (j := 12) ?_ ?_ <;> ((try refine Zk ?_); (first | (refine Ze (.func 117) ?_; refine qC rfl rfl (hnum) ?_; rintro v ρ' L' hle ⟨rfl, rfl, rfl⟩ <;> (try simp only [kM, kN, kO])) | (refine Ze (.func 57) ?_; refine qC rfl rfl (hM) ?_; rintro v ρ' L' hle ⟨hz1, s1, sp1, os1, rfl, hR1, rfl⟩ <;> (try simp only [kM, kN, kO])) | (refine Zf ?_; refine qQ ?_) | (refine Zn ?_; try intro _)) <;> ((try simp only [kM, kN, kO]); refine Zb ?_; refine Zl ?_))))
  all_goals (first | (refine Zp (i := 12) ?_; ((try refine Zk ?_); (first | (refine Zf ?_; refine qQ ?_) | (refine Zn ?_; try intro _)) <;> ((try simp only [kM, kN, kO]); refine Zb ?_; refine Zl ?_))) | (refine Zp (i := 8) ?_; ((try refine Zk ?_); (first | (refine Ze (.func 117) ?_; refine qC rfl rfl (hnum) ?_; rintro v ρ' L' hle ⟨rfl, rfl, rfl⟩ <;> (try simp only [kM, kN, kO])) | (refine Ze (.func 57) ?_; refine qC rfl rfl (hM) ?_; rintro v ρ' L' hle ⟨hz1, s1, sp1, os1, rfl, hR1, rfl⟩ <;> (try simp only [kM, kN, kO])) | (refine Zf ?_; refine qQ ?_) | (refine Zn ?_; try intro _)) <;> ((try simp only [kM, kN, kO]); refine Zb ?_; refine Zl ?_))))
  all_goals refine ZS 13 ?_
  all_goals (refine Zp (i := 14) ?_; ((try refine Zk ?_); (first | (refine Zf ?_; refine qQ ?_) | (refine Zn ?_; try intro _)) <;> ((try simp only [kM, kN, kO]); refine Zb ?_; refine Zl ?_)))
  all_goals refine ZI ?_
  all_goals (repeat' (first | (refine ZE ?_; refine Zo (Zd rfl) rfl rfl ?_) | (refine Zj ?_; first | (refine Zf ?_; refine qQ ?_) | refine Zn ?_) | refine Zb ?_ | (refine Zi ?_; refine Zv ?_) | (refine Zh ?_; refine Zu ?_) | intro _))
  all_goals exact qE (L' := Xi (.slice s1.a s1.n s1.c) sp1 os1) ⟨hz1, s1, sp1, os1, rfl, hR1, rfl⟩
 ·by_cases k6 : k = 6
  ·simp only [if_neg k5, if_pos k6]
   repeat' (first | (refine ZE ?_; refine Zo (Zd rfl) rfl rfl ?_) | (refine Zj ?_; first | (refine Zf ?_; refine qQ ?_) | refine Zn ?_) | refine Zb ?_ | (refine Zi ?_; refine Zv ?_) | (refine Zh ?_; refine Zu ?_) | intro _)
   refine ZD (Zs _ _ ([[(_, .cells ⟨Yh v ro⟩ 34 (0, 0))], [(_, .cells ⟨opV o⟩ 65 (0, 0))]])) (Zz (hT := tk) (Hp.le_refl _)) ?_
   all_goals (refine ZX 0 ?_; refine ZX 1 ?_; refine ZX 2 ?_; refine ZS 4 ?_; refine ZX 5 ?_)
   all_goals (refine Zp (i := 3) ?_; ((try refine Zk ?_); (first | (refine Ze (.func 117) ?_; refine qC rfl rfl (hnum) ?_; rintro v ρ' L' hle ⟨rfl, rfl, rfl⟩ <;> (try simp only [kM, kN, kO])) | (refine Zf ?_; refine qQ ?_) | (refine Zn ?_; try intro _)) <;> ((try simp only [kM, kN, kO]); refine Zb ?_; refine Zl ?_)))
   all_goals (refine Zp (i := 6) ?_; ((try refine Zk ?_); (first | (refine Ze (.func 58) ?_; refine qC rfl rfl (hC) ?_; rintro v ρ' L' hle ⟨hz1, s1, sp1, os1, rfl, hR1, rfl⟩ <;> (try simp only [kM, kN, kO])) | (refine Zf ?_; refine qQ ?_) | (refine Zn ?_; try intro _)) <;> ((try simp only [kM, kN, kO]); refine Zb ?_; refine Zl ?_)))
   all_goals (refine ZT 7 ?_; refine rEx 8 ?_; refine ZS 10 ?_)
   all_goals (refine Ye (i := 9) (j := 11) ?_ ?_ <;> ((try refine Zk ?_); (first | (refine Ze (.func 117) ?_; refine qC rfl rfl (hnum) ?_; rintro v ρ' L' hle ⟨rfl, rfl, rfl⟩ <;> (try simp only [kM, kN, kO])) | (refine Ze (.func 58) ?_; refine qC rfl rfl (hC) ?_; rintro v ρ' L' hle ⟨hz1, s1, sp1, os1, rfl, hR1, rfl⟩ <;> (try simp only [kM, kN, kO])) | (refine Zf ?_; refine qQ ?_) | (refine Zn ?_; try intro _)) <;> ((try simp only [kM, kN, kO]); refine Zb ?_; refine Zl ?_)))
   all_goals (first | (refine Zp (i := 11) ?_; ((try refine Zk ?_); (first | (refine Zf ?_; refine qQ ?_) | (refine Zn ?_; try intro _)) <;> ((try simp only [kM, kN, kO]); refine Zb ?_; refine Zl ?_))) | (refine Zp (i := 9) ?_; ((try refine Zk ?_); (first | (refine Ze (.func 117) ?_; refine qC rfl rfl (hnum) ?_; rintro v ρ' L' hle ⟨rfl, rfl, rfl⟩ <;> (try simp only [kM, kN, kO])) | (refine Ze (.func 58) ?_; refine qC rfl rfl (hC) ?_; rintro v ρ' L' hle ⟨hz1, s1, sp1, os1, rfl, hR1, rfl⟩ <;> (try simp only [kM, kN, kO])) | (refine Zf ?_; refine qQ ?_) | (refine Zn ?_; try intro _)) <;> ((try simp only [kM, kN, kO]); refine Zb ?_; refine Zl ?_))))
   all_goals refine ZS 12 ?_
   all_goals (refine Zp (i := 13) ?_; ((try refine Zk ?_); (first | (refine Zf ?_; refine qQ ?_) | (refine Zn ?_; try intro _)) <;> ((try simp only [kM, kN, kO]); refine Zb ?_; refine Zl ?_)))
   all_goals refine ZI ?_
   all_goals (repeat' (first | (refine ZE ?_; refine Zo (Zd rfl) rfl rfl ?_) | (refine Zj ?_; first | (refine Zf ?_; refine qQ ?_) | refine Zn ?_) | refine Zb ?_ | (refine Zi ?_; refine Zv ?_) | (refine Zh ?_; refine Zu ?_) | intro _))
   all_goals exact qE (L' := Xi (.slice s1.a s1.n s1.c) sp1 os1) ⟨hz1, s1, sp1, os1, rfl, hR1, rfl⟩
  ·simp only [if_neg k5, if_neg k6]
   repeat' (first | (refine ZE ?_; refine Zo (Zd rfl) rfl rfl ?_) | (refine Zj ?_; first | (refine Zf ?_; refine qQ ?_) | refine Zn ?_) | refine Zb ?_ | (refine Zi ?_; refine Zv ?_) | (refine Zh ?_; refine Zu ?_) | intro _)
   refine ZD (Zs _ _ ([[(_, .cells ⟨Yh v ro⟩ 34 (0, 0))], [(_, .cells ⟨opV o⟩ 65 (0, 0))]])) (Zz (hT := tk) (Hp.le_refl _)) ?_
   all_goals (refine ZX 0 ?_; refine ZX 1 ?_; refine ZX 2 ?_)
   all_goals (refine Zp (i := 3) ?_; ((try refine Zk ?_); (first | (refine Ze (.func 45) ?_; refine qC rfl rfl (hrec) ?_; rintro v ρ' L' hle ⟨rfl, rfl, rfl⟩ <;> (try simp only [kM, kN, kO])) | (refine Zf ?_; refine qQ ?_) | (refine Zn ?_; try intro _)) <;> ((try simp only [kM, kN, kO]); refine Zb ?_; refine Zl ?_)))
   all_goals (refine Zp (i := 4) ?_; ((try refine Zk ?_); (first | (refine Ze (.func 60) ?_; refine qC rfl rfl (hT) ?_; rintro v ρ' L' hle ⟨hz1, s1, sp1, os1, rfl, hR1, rfl⟩ <;> (try simp only [kM, kN, kO])) | (refine Zf ?_; refine qQ ?_) | (refine Zn ?_; try intro _)) <;> ((try simp only [kM, kN, kO]); refine Zb ?_; refine Zl ?_)))
   all_goals (refine ZT 5 ?_; refine rEx 6 ?_; refine ZS 8 ?_)
   all_goals (refine Ye (i := 7) (j := 9) ?_ ?_ <;> ((try refine Zk ?_); (first | (refine Ze (.func 45) ?_; refine qC rfl rfl (hrec) ?_; rintro v ρ' L' hle ⟨rfl, rfl, rfl⟩ <;> (try simp only [kM, kN, kO])) | (refine Ze (.func 60) ?_; refine qC rfl rfl (hT) ?_; rintro v ρ' L' hle ⟨hz1, s1, sp1, os1, rfl, hR1, rfl⟩ <;> (try simp only [kM, kN, kO])) | (refine Zf ?_; refine qQ ?_) | (refine Zn ?_; try intro _)) <;> ((try simp only [kM, kN, kO]); refine Zb ?_; refine Zl ?_)))
   all_goals (first | (refine Zp (i := 9) ?_; ((try refine Zk ?_); (first | (refine Zf ?_; refine qQ ?_) | (refine Zn ?_; try intro _)) <;> ((try simp only [kM, kN, kO]); refine Zb ?_; refine Zl ?_))) | (refine Zp (i := 7) ?_; ((try refine Zk ?_); (first | (refine Ze (.func 45) ?_; refine qC rfl rfl (hrec) ?_; rintro v ρ' L' hle ⟨rfl, rfl, rfl⟩ <;> (try simp only [kM, kN, kO])) | (refine Ze (.func 60) ?_; refine qC rfl rfl (hT) ?_; rintro v ρ' L' hle ⟨hz1, s1, sp1, os1, rfl, hR1, rfl⟩ <;> (try simp only [kM, kN, kO])) | (refine Zf ?_; refine qQ ?_) | (refine Zn ?_; try intro _)) <;> ((try simp only [kM, kN, kO]); refine Zb ?_; refine Zl ?_))))
   all_goals refine ZS 10 ?_
   all_goals (refine Zp (i := 11) ?_; ((try refine Zk ?_); (first | (refine Zf ?_; refine qQ ?_) | (refine Zn ?_; try intro _)) <;> ((try simp only [kM, kN, kO]); refine Zb ?_; refine Zl ?_)))
   all_goals refine ZI ?_
   all_goals (repeat' (first | (refine ZE ?_; refine Zo (Zd rfl) rfl rfl ?_) | (refine Zj ?_; first | (refine Zf ?_; refine qQ ?_) | refine Zn ?_) | refine Zb ?_ | (refine Zi ?_; refine Zv ?_) | (refine Zh ?_; refine Zu ?_) | intro _))
   all_goals exact qE (L' := Xi (.slice s1.a s1.n s1.c) sp1 os1) ⟨hz1, s1, sp1, os1, rfl, hR1, rfl⟩
theorem wants_bad {o : OpD} {p : Yr} (h : XW p = false) : runE o p = 280 ∧ runP o p = ⟨0, []⟩ ∧ runN o p = 0 := by
 have e1 : ∀ (f : TxP → Int) n, XM f p n = 280 := fun f n => by unfold XM; rw [h]; rfl
 have e2 : ∀ (f : TxP → Int) g n, asksP f g p n = ⟨0, []⟩ := fun f g n => by unfold asksP; rw [e1]; rfl
 have e3 : ∀ r, XY p r = 280 := fun r => by unfold XY; rw [h]; rfl
 have e4 : ∀ r, XK p r = ⟨0, []⟩ := fun r => by unfold XK; rw [e3 r]; rfl
 refine ⟨?_, ?_, ?_⟩
 ·unfold runE markE cutE
  rw [e1, e1, e3]; repeat' split
  all_goals rfl
 ·unfold runP XX cutP
  rw [e2, e2, e4]; repeat' split
  all_goals rfl
 ·unfold runN markK markE
  rw [e1]; split <;> rfl
theorem wants_spec (ρ : Hp) (o : OpD) (v : SV) (ro : Ros) (h : RosIn ρ v ro) (hn : i64in o.n) (hr : RcIn ρ o.rv o.rc) : Spec Tryz.prog 40 [.agg ⟨opV o⟩, .agg ⟨Yh v ro⟩] ρ [] (fun z ρ' L' => ρ.le ρ' ∧ ∃ (v' : SV) (ro' : Ros), z = .agg ⟨toldV v' ro' (runN o ro.p) (runE o ro.p)⟩ ∧ RosIn ρ' v' ro' ∧ ro'.p = runP o ro.p ∧ L' = []) := by
 have hri18 := right18_spec ρ v ro h
 rw [← rosOk_p] at hri18
 cases hok : XW ro.p
 ·rw [hok] at hri18
  obtain ⟨e1, e2, e3⟩ := wants_bad (o := o) hok
  rw [e1, e2, e3]
  refine Zg Tryz.func40 rfl rfl rfl fun u R => ?_
  simp only [Zx, List.cons_append, List.nil_append]
  repeat' (first | (refine Ze (.func 48) ?_; refine qC rfl rfl (hri18) ?_; rintro v ρ' L' hle ⟨rfl, rfl, rfl⟩ <;> (try simp only [kM, kN, kO])) | (refine ZE ?_; refine Zo (Zd rfl) rfl rfl ?_) | (refine Zj ?_; first | (refine Zf ?_; refine qQ ?_) | refine Zn ?_) | refine Zb ?_ | (refine Zi ?_; refine Zv ?_) | (refine Zh ?_; refine Zu ?_) | intro _)
  exact qE (L' := []) ⟨Hp.le_refl _, Xn, ⟨0, []⟩, rfl, RosIn.z, rfl, rfl⟩
 rw [hok] at hri18
 have hG := WP.1 hok
 have hnum := onum_spec ρ o v ro h
 have hrec := orecL_spec ρ o v ro h (XZ ro.p + 1) (by have := lastP_le hG; have e : IntKind.u64.wrap (((XZ ro.p : Nat) : Int) + 1) = (((XZ ro.p : Nat) : Int) + 1) % 18446744073709551616 := rfl; rw [e]; omega)
 rw [recOfL_eq] at hrec
 have hri := recOf_in (p := ro.p) hr
 have hM := mark18_spec ρ v ro h hG.rosB (opN o ro.p)
 have hC := cut18_spec ρ v ro h (opN o ro.p) o.n hn
 have hT := take18_spec ρ v ro h hG o.rv (recOf o ro.p) hri
 have aE : ∀ (f : TxP → Int) n, XM f ro.p n = WJ f (Yf ro.p n) := fun f n => by unfold XM; rw [hok]; rfl
 have eT : XY ro.p (recOf o ro.p) = Wj ro.p (recOf o ro.p) := by unfold XY Wj; rw [hok]; rfl
 have eTP : XK ro.p (recOf o ro.p) = Xs ro.p (recOf o ro.p) := by unfold XK Xs; rw [eT]
 unfold XH at hT
 rw [← eT, ← eTP] at hT
 have eM : (if WJ XR (Yf ro.p (opN o ro.p)) = 0 then askT markG ro.p (Yf ro.p (opN o ro.p)) else ⟨0, []⟩) = XX ro.p (opN o ro.p) := by unfold XX asksP; rw [aE]
 have eK : (if WJ XR (Yf ro.p (opN o ro.p)) = 0 then marksN ro.p (opN o ro.p) else 0) = markK ro.p (opN o ro.p) := by unfold markK markE; rw [aE]
 have eC : (if WJ (cutF o.n) (Yf ro.p (opN o ro.p)) = 0 then askT (cutG o.n) ro.p (Yf ro.p (opN o ro.p)) else ⟨0, []⟩) = cutP ro.p (opN o ro.p) o.n := by unfold cutP asksP; rw [aE]
 rw [eM, eK, ← aE, show XM XR ro.p (opN o ro.p) = markE ro.p (opN o ro.p) from rfl] at hM
 rw [eC, ← aE, show XM (cutF o.n) ro.p (opN o ro.p) = cutE ro.p (opN o ro.p) o.n from rfl] at hC
 clear eM eK eC eT eTP aE
 unfold runN runE runP
 generalize hk : opK o = k
 unfold opK at hk
 generalize recOf o ro.p = rr at *
 generalize opN o ro.p = nn at *
 refine Zg Tryz.func40 rfl rfl rfl fun u R => ?_
 simp only [Zx, List.cons_append, List.nil_append]
 by_cases k5 : k = 5
 ·simp only [if_pos k5]
  repeat' (first | (refine Ze (.func 48) ?_; refine qC rfl rfl (hri18) ?_; rintro v ρ' L' hle ⟨rfl, rfl, rfl⟩ <;> (try simp only [kM, kN, kO])) | (refine ZE ?_; refine Zo (Zd rfl) rfl rfl ?_) | (refine Zj ?_; first | (refine Zf ?_; refine qQ ?_) | refine Zn ?_) | refine Zb ?_ | (refine Zi ?_; refine Zv ?_) | (refine Zh ?_; refine Zu ?_) | intro _)
  refine ZD (Zs _ _ ([[(_, .cells ⟨Yh v ro⟩ 34 (0, 0))], [(_, .cells ⟨opV o⟩ 65 (0, 0))]])) (Zz (hT := tk) (Hp.le_refl _)) ?_
  all_goals (refine ZX 0 ?_; refine ZX 1 ?_; refine ZX 2 ?_)
  all_goals (refine Zp (i := 3) ?_; ((try refine Zk ?_); (first | (refine Ze (.func 117) ?_; refine qC rfl rfl (hnum) ?_; rintro v ρ' L' hle ⟨rfl, rfl, rfl⟩ <;> (try simp only [kM, kN, kO])) | (refine Zf ?_; refine qQ ?_) | (refine Zn ?_; try intro _)) <;> ((try simp only [kM, kN, kO]); refine Zb ?_; refine Zl ?_)))
  all_goals (refine Zp (i := 4) ?_; ((try refine Zk ?_); (first | (refine Ze (.func 118) ?_; refine qC rfl rfl (hM) ?_; rintro v ρ' L' hle ⟨hz1, v1, r1, rfl, hR1, hp1, rfl⟩ <;> (try simp only [kM, kN, kO])) | (refine Zf ?_; refine qQ ?_) | (refine Zn ?_; try intro _)) <;> ((try simp only [kM, kN, kO]); refine Zb ?_; refine Zl ?_)))
  all_goals (refine ZT 5 ?_; refine rEx 6 ?_; refine ZS 9 ?_)
  all_goals (refine rStep3 (i := 7) (j := 8) (k := 10) ?_ ?_ ?_ <;> ((try refine Zk ?_); (first | (refine Ze (.func 117) ?_; refine qC rfl rfl (hnum) ?_; rintro v ρ' L' hle ⟨rfl, rfl, rfl⟩ <;> (try simp only [kM, kN, kO])) | (refine Ze (.func 118) ?_; refine qC rfl rfl (hM) ?_; rintro v ρ' L' hle ⟨hz1, v1, r1, rfl, hR1, hp1, rfl⟩ <;> (try simp only [kM, kN, kO])) | (refine Zf ?_; refine qQ ?_) | (refine Zn ?_; try intro _)) <;> ((try simp only [kM, kN, kO]); refine Zb ?_; refine Zl ?_)))
  all_goals (first | (refine Ye (i := 8) (j := 10) ?_ ?_ <;> ((try refine Zk ?_); (first | (refine Ze (.func 117) ?_; refine qC rfl rfl (hnum) ?_; rintro v ρ' L' hle ⟨rfl, rfl, rfl⟩ <;> (try simp only [kM, kN, kO])) | (refine Ze (.func 118) ?_; refine qC rfl rfl (hM) ?_; rintro v ρ' L' hle ⟨hz1, v1, r1, rfl, hR1, hp1, rfl⟩ <;> (try simp only [kM, kN, kO])) | (refine Zf ?_; refine qQ ?_) | (refine Zn ?_; try intro _)) <;> ((try simp only [kM, kN, kO]); refine Zb ?_; refine Zl ?_))) | (refine Ye (i := 7) (j := 10) ?_ ?_ <;> ((try refine Zk ?_); (first | (refine Ze (.func 117) ?_; refine qC rfl rfl (hnum) ?_; rintro v ρ' L' hle ⟨rfl, rfl, rfl⟩ <;> (try simp only [kM, kN, kO])) | (refine Ze (.func 118) ?_; refine qC rfl rfl (hM) ?_; rintro v ρ' L' hle ⟨hz1, v1, r1, rfl, hR1, hp1, rfl⟩ <;> (try simp only [kM, kN, kO])) | (refine Zf ?_; refine qQ ?_) | (refine Zn ?_; try intro _)) <;> ((try simp only [kM, kN, kO]); refine Zb ?_; refine Zl ?_))) | (refine Ye (i := 7) (j := 8) ?_ ?_ <;> ((try refine Zk ?_); (first | (refine Ze (.func 117) ?_; refine qC rfl rfl (hnum) ?_; rintro v ρ' L' hle ⟨rfl, rfl, rfl⟩ <;> (try simp only [kM, kN, kO])) | (refine Ze (.func 118) ?_; refine qC rfl rfl (hM) ?_; rintro v ρ' L' hle ⟨hz1, v1, r1, rfl, hR1, hp1, rfl⟩ <;> (try simp only [kM, kN, kO])) | (refine Zf ?_; refine qQ ?_) | (refine Zn ?_; try intro _)) <;> ((try simp only [kM, kN, kO]); refine Zb ?_; refine Zl ?_))))
  all_goals (first | refine ZS 11 ?_ | (refine Zp (i := 10) ?_; ((try refine Zk ?_); (first | (refine Zf ?_; refine qQ ?_) | (refine Zn ?_; try intro _)) <;> ((try simp only [kM, kN, kO]); refine Zb ?_; refine Zl ?_))) | (refine Zp (i := 7) ?_; ((try refine Zk ?_); (first | (refine Ze (.func 117) ?_; refine qC rfl rfl (hnum) ?_; rintro v ρ' L' hle ⟨rfl, rfl, rfl⟩ <;> (try simp only [kM, kN, kO])) | (refine Ze (.func 118) ?_; refine qC rfl rfl (hM) ?_; rintro v ρ' L' hle ⟨hz1, v1, r1, rfl, hR1, hp1, rfl⟩ <;> (try simp only [kM, kN, kO])) | (refine Zf ?_; refine qQ ?_) | (refine Zn ?_; try intro _)) <;> ((try simp only [kM, kN, kO]); refine Zb ?_; refine Zl ?_))))
  all_goals (first | refine ZS 11 ?_ | (refine Ye (i := 8) (j := 12) ?_ ?_ <;> ((try refine Zk ?_); (first | (refine Ze (.func 117) ?_; refine qC rfl rfl (hnum) ?_; rintro v ρ' L' hle ⟨rfl, rfl, rfl⟩ <;> (try simp only [kM, kN, kO])) | (refine Ze (.func 118) ?_; refine qC rfl rfl (hM) ?_; rintro v ρ' L' hle ⟨hz1, v1, r1, rfl, hR1, hp1, rfl⟩ <;> (try simp only [kM, kN, kO])) | (refine Zf ?_; refine qQ ?_) | (refine Zn ?_; try intro _)) <;> ((try simp only [kM, kN, kO]); refine Zb ?_; refine Zl ?_))))
  all_goals (first | (refine Zp (i := 12) ?_; ((try refine Zk ?_); (first | (refine Zf ?_; refine qQ ?_) | (refine Zn ?_; try intro _)) <;> ((try simp only [kM, kN, kO]); refine Zb ?_; refine Zl ?_))) | (refine Zp (i := 8) ?_; ((try refine Zk ?_); (first | (refine Ze (.func 117) ?_; refine qC rfl rfl (hnum) ?_; rintro v ρ' L' hle ⟨rfl, rfl, rfl⟩ <;> (try simp only [kM, kN, kO])) | (refine Ze (.func 118) ?_; refine qC rfl rfl (hM) ?_; rintro v ρ' L' hle ⟨hz1, v1, r1, rfl, hR1, hp1, rfl⟩ <;> (try simp only [kM, kN, kO])) | (refine Zf ?_; refine qQ ?_) | (refine Zn ?_; try intro _)) <;> ((try simp only [kM, kN, kO]); refine Zb ?_; refine Zl ?_))))
  all_goals refine ZS 13 ?_
  all_goals (refine Zp (i := 14) ?_; ((try refine Zk ?_); (first | (refine Zf ?_; refine qQ ?_) | (refine Zn ?_; try intro _)) <;> ((try simp only [kM, kN, kO]); refine Zb ?_; refine Zl ?_)))
  all_goals refine ZI ?_
  all_goals (repeat' (first | (refine ZE ?_; refine Zo (Zd rfl) rfl rfl ?_) | (refine Zj ?_; first | (refine Zf ?_; refine qQ ?_) | refine Zn ?_) | refine Zb ?_ | (refine Zi ?_; refine Zv ?_) | (refine Zh ?_; refine Zu ?_) | intro _))
  all_goals exact qE (L' := []) ⟨hz1, v1, r1, rfl, hR1, hp1, rfl⟩
 ·by_cases k6 : k = 6
  ·simp only [if_neg k5, if_pos k6]
   repeat' (first | (refine Ze (.func 48) ?_; refine qC rfl rfl (hri18) ?_; rintro v ρ' L' hle ⟨rfl, rfl, rfl⟩ <;> (try simp only [kM, kN, kO])) | (refine ZE ?_; refine Zo (Zd rfl) rfl rfl ?_) | (refine Zj ?_; first | (refine Zf ?_; refine qQ ?_) | refine Zn ?_) | refine Zb ?_ | (refine Zi ?_; refine Zv ?_) | (refine Zh ?_; refine Zu ?_) | intro _)
   refine ZD (Zs _ _ ([[(_, .cells ⟨Yh v ro⟩ 34 (0, 0))], [(_, .cells ⟨opV o⟩ 65 (0, 0))]])) (Zz (hT := tk) (Hp.le_refl _)) ?_
   all_goals (refine ZX 0 ?_; refine ZX 1 ?_; refine ZX 2 ?_; refine ZS 4 ?_; refine ZX 5 ?_)
   all_goals (refine Zp (i := 3) ?_; ((try refine Zk ?_); (first | (refine Ze (.func 117) ?_; refine qC rfl rfl (hnum) ?_; rintro v ρ' L' hle ⟨rfl, rfl, rfl⟩ <;> (try simp only [kM, kN, kO])) | (refine Zf ?_; refine qQ ?_) | (refine Zn ?_; try intro _)) <;> ((try simp only [kM, kN, kO]); refine Zb ?_; refine Zl ?_)))
   all_goals (refine Zp (i := 6) ?_; ((try refine Zk ?_); (first | (refine Ze (.func 119) ?_; refine qC rfl rfl (hC) ?_; rintro v ρ' L' hle ⟨hz1, v1, r1, rfl, hR1, hp1, rfl⟩ <;> (try simp only [kM, kN, kO])) | (refine Zf ?_; refine qQ ?_) | (refine Zn ?_; try intro _)) <;> ((try simp only [kM, kN, kO]); refine Zb ?_; refine Zl ?_)))
   all_goals (refine ZT 7 ?_; refine rEx 8 ?_; refine ZS 10 ?_)
   all_goals (refine Ye (i := 9) (j := 11) ?_ ?_ <;> ((try refine Zk ?_); (first | (refine Ze (.func 117) ?_; refine qC rfl rfl (hnum) ?_; rintro v ρ' L' hle ⟨rfl, rfl, rfl⟩ <;> (try simp only [kM, kN, kO])) | (refine Ze (.func 119) ?_; refine qC rfl rfl (hC) ?_; rintro v ρ' L' hle ⟨hz1, v1, r1, rfl, hR1, hp1, rfl⟩ <;> (try simp only [kM, kN, kO])) | (refine Zf ?_; refine qQ ?_) | (refine Zn ?_; try intro _)) <;> ((try simp only [kM, kN, kO]); refine Zb ?_; refine Zl ?_)))
   all_goals (first | (refine Zp (i := 11) ?_; ((try refine Zk ?_); (first | (refine Zf ?_; refine qQ ?_) | (refine Zn ?_; try intro _)) <;> ((try simp only [kM, kN, kO]); refine Zb ?_; refine Zl ?_))) | (refine Zp (i := 9) ?_; ((try refine Zk ?_); (first | (refine Ze (.func 117) ?_; refine qC rfl rfl (hnum) ?_; rintro v ρ' L' hle ⟨rfl, rfl, rfl⟩ <;> (try simp only [kM, kN, kO])) | (refine Ze (.func 119) ?_; refine qC rfl rfl (hC) ?_; rintro v ρ' L' hle ⟨hz1, v1, r1, rfl, hR1, hp1, rfl⟩ <;> (try simp only [kM, kN, kO])) | (refine Zf ?_; refine qQ ?_) | (refine Zn ?_; try intro _)) <;> ((try simp only [kM, kN, kO]); refine Zb ?_; refine Zl ?_))))
   all_goals refine ZS 12 ?_
   all_goals (refine Zp (i := 13) ?_; ((try refine Zk ?_); (first | (refine Zf ?_; refine qQ ?_) | (refine Zn ?_; try intro _)) <;> ((try simp only [kM, kN, kO]); refine Zb ?_; refine Zl ?_)))
   all_goals refine ZI ?_
   all_goals (repeat' (first | (refine ZE ?_; refine Zo (Zd rfl) rfl rfl ?_) | (refine Zj ?_; first | (refine Zf ?_; refine qQ ?_) | refine Zn ?_) | refine Zb ?_ | (refine Zi ?_; refine Zv ?_) | (refine Zh ?_; refine Zu ?_) | intro _))
   all_goals exact qE (L' := []) ⟨hz1, v1, r1, rfl, hR1, hp1, rfl⟩
  ·simp only [if_neg k5, if_neg k6]
   repeat' (first | (refine Ze (.func 48) ?_; refine qC rfl rfl (hri18) ?_; rintro v ρ' L' hle ⟨rfl, rfl, rfl⟩ <;> (try simp only [kM, kN, kO])) | (refine ZE ?_; refine Zo (Zd rfl) rfl rfl ?_) | (refine Zj ?_; first | (refine Zf ?_; refine qQ ?_) | refine Zn ?_) | refine Zb ?_ | (refine Zi ?_; refine Zv ?_) | (refine Zh ?_; refine Zu ?_) | intro _)
   refine ZD (Zs _ _ ([[(_, .cells ⟨Yh v ro⟩ 34 (0, 0))], [(_, .cells ⟨opV o⟩ 65 (0, 0))]])) (Zz (hT := tk) (Hp.le_refl _)) ?_
   all_goals (refine ZX 0 ?_; refine ZX 1 ?_; refine ZX 2 ?_)
   all_goals (refine Zp (i := 3) ?_; ((try refine Zk ?_); (first | (refine Ze (.func 45) ?_; refine qC rfl rfl (hrec) ?_; rintro v ρ' L' hle ⟨rfl, rfl, rfl⟩ <;> (try simp only [kM, kN, kO])) | (refine Zf ?_; refine qQ ?_) | (refine Zn ?_; try intro _)) <;> ((try simp only [kM, kN, kO]); refine Zb ?_; refine Zl ?_)))
   all_goals (refine Zp (i := 4) ?_; ((try refine Zk ?_); (first | (refine Ze (.func 120) ?_; refine qC rfl rfl (hT) ?_; rintro v ρ' L' hle ⟨hz1, v1, r1, rfl, hR1, hp1, rfl⟩ <;> (try simp only [kM, kN, kO])) | (refine Zf ?_; refine qQ ?_) | (refine Zn ?_; try intro _)) <;> ((try simp only [kM, kN, kO]); refine Zb ?_; refine Zl ?_)))
   all_goals (refine ZT 5 ?_; refine rEx 6 ?_; refine ZS 8 ?_)
   all_goals (refine Ye (i := 7) (j := 9) ?_ ?_ <;> ((try refine Zk ?_); (first | (refine Ze (.func 45) ?_; refine qC rfl rfl (hrec) ?_; rintro v ρ' L' hle ⟨rfl, rfl, rfl⟩ <;> (try simp only [kM, kN, kO])) | (refine Ze (.func 120) ?_; refine qC rfl rfl (hT) ?_; rintro v ρ' L' hle ⟨hz1, v1, r1, rfl, hR1, hp1, rfl⟩ <;> (try simp only [kM, kN, kO])) | (refine Zf ?_; refine qQ ?_) | (refine Zn ?_; try intro _)) <;> ((try simp only [kM, kN, kO]); refine Zb ?_; refine Zl ?_)))
   all_goals (first | (refine Zp (i := 9) ?_; ((try refine Zk ?_); (first | (refine Zf ?_; refine qQ ?_) | (refine Zn ?_; try intro _)) <;> ((try simp only [kM, kN, kO]); refine Zb ?_; refine Zl ?_))) | (refine Zp (i := 7) ?_; ((try refine Zk ?_); (first | (refine Ze (.func 45) ?_; refine qC rfl rfl (hrec) ?_; rintro v ρ' L' hle ⟨rfl, rfl, rfl⟩ <;> (try simp only [kM, kN, kO])) | (refine Ze (.func 120) ?_; refine qC rfl rfl (hT) ?_; rintro v ρ' L' hle ⟨hz1, v1, r1, rfl, hR1, hp1, rfl⟩ <;> (try simp only [kM, kN, kO])) | (refine Zf ?_; refine qQ ?_) | (refine Zn ?_; try intro _)) <;> ((try simp only [kM, kN, kO]); refine Zb ?_; refine Zl ?_))))
   all_goals refine ZS 10 ?_
   all_goals (refine Zp (i := 11) ?_; ((try refine Zk ?_); (first | (refine Zf ?_; refine qQ ?_) | (refine Zn ?_; try intro _)) <;> ((try simp only [kM, kN, kO]); refine Zb ?_; refine Zl ?_)))
   all_goals refine ZI ?_
   all_goals (repeat' (first | (refine ZE ?_; refine Zo (Zd rfl) rfl rfl ?_) | (refine Zj ?_; first | (refine Zf ?_; refine qQ ?_) | refine Zn ?_) | refine Zb ?_ | (refine Zi ?_; refine Zv ?_) | (refine Zh ?_; refine Zu ?_) | intro _))
   all_goals exact qE (L' := []) ⟨hz1, v1, r1, rfl, hR1, hp1, rfl⟩
theorem same18_own (ρ : Hp) (s : SV) (sp : List Value) (os : List OT) (p : Yr) (hR : OwnR (.slice s.a s.n s.c) sp os p.txns) (hB : RosB p) (hl : p.txns.length ≤ 1000000) (v2 : SV) (r2 : Ros) (h2 : RosIn ρ v2 r2) : Spec Tryz.prog 19 [.agg ⟨[.int .i64 p.next, .slice s.a s.n s.c]⟩, .agg ⟨Yh v2 r2⟩] ρ (Xi (.slice s.a s.n s.c) sp os) (fun z ρ' L' => z = .bool (decide (p = r2.p)) ∧ ρ' = ρ ∧ L' = Xi (.slice s.a s.n s.c) sp os) := by
 have h := Spec.thaw (P := Tryz.prog) (f := 19) (args := [.agg ⟨[.int .i64 p.next, .slice s.a s.n s.c]⟩, .agg ⟨Yh v2 r2⟩]) (ρ := ρ) (C := Xi (.slice s.a s.n s.c) sp os) (L := []) (Post := fun z L' => z = .bool (decide (p = r2.p)) ∧ L' = []) (fun ρ1 hle hf => by
  obtain ⟨v, r, e1, e2, e3, e4⟩ := hR.frozen (ρ := ρ1) hl (fun t ht => by have := hB t ht; omega) (fun q hq => hf q (by simp [hq])) (fun q hq => hf q (by simp [hq])) p.next
  have hs := same18_spec ρ1 v v2 r r2 e2 (h2.mono hle)
  rw [e3] at hs
  rw [e1, ← e4]
  refine hs.mono ?_
  rintro z ρ' L' _ ⟨q1, q2, q3⟩
  exact ⟨q2, q1, q3⟩)
 refine h.mono ?_
 rintro z ρ' L' _ ⟨q1, L2, ⟨q2, rfl⟩, q4⟩
 exact ⟨q2, q1, q4⟩
theorem runP_cases (o : OpD) (p : Yr) : RosG (runP o p) ∨ runP o p = ⟨0, []⟩ := by
 unfold runP XX cutP
 by_cases k5 : opK o = 5
 ·rw [if_pos k5]
  by_cases he : XM XR p (opN o p) = 0
  ·exact .inl (asks_ok (fun _ => rfl) (fun t h1 h2 h3 => markG_ok h1 h2 h3) he)
  ·exact .inr (if_neg he)
 ·rw [if_neg k5]
  by_cases k6 : opK o = 6
  ·rw [if_pos k6]
   by_cases he : XM (cutF o.n) p (opN o p) = 0
   ·exact .inl (asks_ok (fun _ => rfl) (fun t h1 h2 _ => cutG_ok h1 h2 o.n) he)
   ·exact .inr (if_neg he)
  ·rw [if_neg k6]
   by_cases he : XY p (recOf o p) = 0
   ·exact .inl (takeP_ok he)
   ·exact .inr (if_neg he)
theorem runP_B (o : OpD) (p : Yr) : RosB (runP o p) ∧ (runP o p).txns.length ≤ 1000000 := by
 rcases runP_cases o p with h | h
 ·have := h.len
  exact ⟨h.rosB, by omega⟩
 ·rw [h]; exact ⟨fun t ht => (by cases ht), by simp⟩
theorem fewRP_B (p : Yr) : RosB (fewRP p) := fun t ht => by
 obtain ⟨x, _, rfl⟩ := List.mem_map.1 ht
 have h1 := List.length_take_le 60 x.stack
 have h2 := List.length_take_le 9 x.marks
 show (x.stack.take 60).length ≤ _ ∧ (x.marks.take 9).length ≤ _
 omega
theorem txF_split (os : List OT) (k : Nat) (h : k < os.length) : txF os = txF (os.take k) ++ (Ym (os[k]).x ++ txF (os.drop (k + 1))) := by
 conv => lhs; rw [← List.take_append_drop k os]
 rw [Wi, List.drop_eq_getElem_cons h]
 rfl
theorem stC_split (os : List OT) (k : Nat) (h : k < os.length) : stC (os.drop k) = (WE (os[k]).x (os[k]).ss ++ Wv (os[k]).x (os[k]).ms) ++ stC (os.drop (k + 1)) := by
 rw [List.drop_eq_getElem_cons h]
 rfl
abbrev uV (i : Int) : Value := .int .u64 i
theorem rosDoes_spec (ρ : Hp) (v0 : SV) (r0 : Ros) (h0 : RosW ρ v0 r0) (a : Option Addr) (n c : Nat) (l : List OpD) (h : AIn ρ 15 opV a n l) (hw : ∀ x ∈ l, OpW ρ x) (hn : n ≤ 9223372036854775807) :
  Spec Tryz.prog 7 [.agg ⟨Yh v0 r0⟩, .slice a n c] ρ [] (fun z ρ' L' => z = .bool true ∧ ρ.le ρ' ∧ L' = []) := by
 have hl := h.len
 refine Zg Tryz.func7 rfl rfl rfl fun u R => ?_
 simp only [Zx, List.cons_append, List.nil_append]
 repeat' (first | (refine Ze (.func 32) ?_; refine qC rfl rfl (wakes18_spec _) ?_; rintro v ρ' L' hle ⟨rfl, hz1, rfl⟩ <;> (try simp only [kM, kN, kO])) | (refine Ze (.func 36) ?_; refine qC rfl rfl (few18_spec _ v0 r0 (h0.mono hz1)) ?_; rintro v ρ' L' hle ⟨hz2, v1, r1, rfl, hR1, hp1, rfl⟩ <;> (try simp only [kM, kN, kO])) | (refine ZE ?_; refine Zo (Zd rfl) rfl rfl ?_) | (refine Zj ?_; first | (refine Zf ?_; refine qQ ?_) | refine Zn ?_) | refine Zb ?_ | (refine Zi ?_; refine Zv ?_) | (refine Zh ?_; refine Zu ?_) | intro _)
 rename_i b0 _ _ b5
 refine ZB [(5, _), (19, _), (20, _)] (fun (ζ : (Nat) × (Hp) × (SV) × (Ros)) => [(21, .int .i64 ζ.1), (4, .bool false)]) (fun (ζ : (Nat) × (Hp) × (SV) × (Ros)) => ζ.2.1) (fun (ζ : (Nat) × (Hp) × (SV) × (Ros)) => [[(b5, .cells ⟨Yh ζ.2.2.1 ζ.2.2.2⟩ 34 (0, 0))]]) (fun (ζ : (Nat) × (Hp) × (SV) × (Ros)) => ζ.1 ≤ n ∧ ρ.le ζ.2.1 ∧ RosIn ζ.2.1 ζ.2.2.1 ζ.2.2.2 ∧ RosB ζ.2.2.2.p) (fun (ζ : (Nat) × (Hp) × (SV) × (Ros)) => n - ζ.1) ((0, ρ', v1, r1)) (⟨Nat.zero_le _, Hp.le_trans hz1 hz2, hR1, by rw [hp1]; exact fewRP_B _⟩) Zm Zm rfl tk ?_
 rintro ⟨k, ρ1, v, ro⟩ hI
 try simp only [List.cons_append, List.nil_append, List.append_assoc, List.append_eq] at hI ⊢
 try dsimp only at hI ⊢
 obtain ⟨hk, hle0, hR, hB⟩ := hI
 by_cases hlt : k < n
 ·obtain ⟨b, off, C, T, fr, e1, hb, hfit, hcc⟩ := (h.mono hle0).get (show k < l.length by omega)
  have hwx := (hw _ (List.getElem_mem (show k < l.length by omega))).mono hle0
  generalize l[k]'(by omega) = o at *
  rw [e1]
  by_cases h40 : k = 40
  ·repeat' (first | (refine ZE ?_; refine Zo (Zd rfl) rfl rfl ?_) | (refine Zj ?_; first | (refine Zf ?_; refine qQ ?_) | refine Zn ?_) | refine Zb ?_ | (refine Zi ?_; refine Zv ?_) | (refine Zh ?_; refine Zu ?_) | intro _)
   exact qE (L' := []) (hle := hle0) ⟨rfl, hle0, rfl⟩
  have hov := over18_spec ρ1 o.rv o.rc hwx.r
  cases ho : overB o.rc
  case' true =>
   rw [ho] at hov
   repeat' (first | (refine Ze (.func 37) ?_; refine qC rfl rfl (hov) ?_; rintro v ρ' L' hle ⟨rfl, rfl, rfl⟩ <;> (try simp only [kM, kN, kO])) | (refine ZE ?_; refine Zo (Zd rfl) rfl rfl ?_) | (refine Zj ?_; first | (refine Zf ?_; refine qQ ?_) | refine Zn ?_) | refine Zb ?_ | (refine Zi ?_; refine Zv ?_) | (refine Zh ?_; refine Zu ?_) | intro _)
   rw [← e1]
   refine Zq (k + 1, ρ', v, ro) (⟨hlt, hle0, hR, hB⟩) Zm Zm rfl tk inferInstance (by first | omega | (dsimp only; omega))
  rw [ho] at hov
  replace hov : Spec Tryz.prog 37 [.agg ⟨Xh o.rv o.rc⟩] ρ1 [] (fun z ρ' L' => z = .bool false ∧ ρ1 = ρ' ∧ L' = []) := hov.mono (fun z ρ' L' _ ⟨q1, q2, q3⟩ => ⟨q1, q2.symm, q3⟩)
  have hri := (hwx.r.in' ho).1
  have hcp := copy18_spec ρ1 v ro hR hB
  repeat' (first | (refine Ze (.func 37) ?_; refine qC rfl rfl (hov) ?_; rintro v ρ' L' hle ⟨rfl, rfl, rfl⟩ <;> (try simp only [kM, kN, kO])) | (refine Ze (.func 38) ?_; refine qC rfl rfl (hcp) ?_; rintro v ρ' L' hle ⟨hz3, vw, rw', rfl, hRw, hpw, rfl⟩ <;> (try simp only [kM, kN, kO])) | (refine ZE ?_; refine Zo (Zd rfl) rfl rfl ?_) | (refine Zj ?_; first | (refine Zf ?_; refine qQ ?_) | refine Zn ?_) | refine Zb ?_ | (refine Zi ?_; refine Zv ?_) | (refine Zh ?_; refine Zu ?_) | intro _)
  rename_i b7 _ b8
  have hR2 := hR.mono hz3
  have hrun := runO_spec _ o v ro hR2 hwx.n (hri.mono hz3)
  have hcp2 := fun ρ4 (hh : RosIn ρ4 vw rw') => copy18_spec ρ4 vw rw' hh (by rw [hpw]; exact hB)
  have hwant : ∀ ρ4, ρ1.le ρ4 → ∀ v4 r4, RosIn ρ4 v4 r4 → r4.p = ro.p → Spec Tryz.prog 40 [.agg ⟨opV o⟩, .agg ⟨Yh v4 r4⟩] ρ4 [] (fun z ρ' L' => ρ4.le ρ' ∧ ∃ (v' : SV) (ro' : Ros), z = .agg ⟨toldV v' ro' (runN o ro.p) (runE o ro.p)⟩ ∧ RosIn ρ' v' ro' ∧ ro'.p = runP o ro.p ∧ L' = []) := fun ρ4 hh v4 r4 h4 h5 => by
   have := wants_spec ρ4 o v4 r4 h4 hwx.n (hri.mono hh)
   rwa [h5] at this
  obtain ⟨hPB, hPl⟩ := runP_B o ro.p
  generalize runP o ro.p = PP at *
  generalize runN o ro.p = NN at *
  generalize runE o ro.p = EE at *
  refine tc_cut_k R [(4, _), (5, _), (8, _), (19, _), (20, _), (21, _)] (fun (ζ : (Hp) × (Nat) × (Nat) × (SV) × (List Value) × (List OT) × (SV) × (Ros)) => [(9, .pointer (some ⟨ζ.2.1, 0, none⟩)), (10, .pointer (some ⟨ζ.2.2.1, 0, none⟩))]) (fun (ζ : (Hp) × (Nat) × (Nat) × (SV) × (List Value) × (List OT) × (SV) × (Ros)) => ζ.1) (fun (ζ : (Hp) × (Nat) × (Nat) × (SV) × (List Value) × (List OT) × (SV) × (Ros)) => [[(b5, .cells ⟨Yh v ro⟩ 34 (0, 0))], [(b8, .cells ⟨Yh vw rw'⟩ 34 (0, 0))], [(ζ.2.1, .cells ⟨[.int .i64 PP.next, .slice ζ.2.2.2.1.a ζ.2.2.2.1.n ζ.2.2.2.1.c, .int .i64 NN, .int .i64 EE]⟩ 67 (0, 0))], [(ζ.2.2.1, .cells ⟨toldV ζ.2.2.2.2.2.2.1 ζ.2.2.2.2.2.2.2 NN EE⟩ 67 (0, 0))], ZK (.slice ζ.2.2.2.1.a ζ.2.2.2.1.n ζ.2.2.2.1.c) (txF ζ.2.2.2.2.2.1) ζ.2.2.2.2.1 72, stC ζ.2.2.2.2.2.1, [(b0, .cells ⟨Yh v0 r0⟩ 34 (0, 0))]]) (fun (ζ : (Hp) × (Nat) × (Nat) × (SV) × (List Value) × (List OT) × (SV) × (Ros)) => ρ1.le ζ.1 ∧ RosIn ζ.1 v ro ∧ RosIn ζ.1 vw rw' ∧ OwnR (.slice ζ.2.2.2.1.a ζ.2.2.2.1.n ζ.2.2.2.1.c) ζ.2.2.2.2.1 ζ.2.2.2.2.2.1 PP.txns ∧ RosIn ζ.1 ζ.2.2.2.2.2.2.1 ζ.2.2.2.2.2.2.2 ∧ ζ.2.2.2.2.2.2.2.p = PP) Zm ?_ ?_
  ·refine ZD (Zs _ _ ([[(b5, .cells ⟨Yh v ro⟩ 34 (0, 0))], [(b8, .cells ⟨Yh vw rw'⟩ 34 (0, 0))], [(b7, .cells ⟨opV o⟩ 65 (0, 0))]])) (Zz (hT := tk) (Hp.le_refl _)) ?_
   all_goals (refine ZX 0 ?_; refine ZX 1 ?_; refine ZX 3 ?_; refine ZX 4 ?_)
   all_goals (refine rStep3 (i := 2) (j := 7) (k := 8) ?_ ?_ ?_ <;> ((try refine Zk ?_); (first | (refine Ze (.func 39) ?_; refine qC rfl rfl (hrun) ?_; rintro v ρ' L' hle ⟨hz4, s, sp, os, rfl, hOR, rfl⟩ <;> (try simp only [kM, kN, kO])) | (refine Zn ?_; try intro _)) <;> ((try simp only [kM, kN, kO]); refine Zb ?_; refine Zl ?_)))
   all_goals (first | (refine rStep3 (i := 5) (j := 7) (k := 8) ?_ ?_ ?_ <;> ((try refine Zk ?_); (first | (refine Ze (.func 38) ?_; refine qC rfl rfl (hcp2 _ (hRw.mono hz4)) ?_; rintro v ρ' L' hle ⟨hz5, v4, r4, rfl, hR4, hp4, rfl⟩ <;> (try simp only [kM, kN, kO])) | (refine Zn ?_; try intro _)) <;> ((try simp only [kM, kN, kO]); refine Zb ?_; refine Zl ?_))) | (refine Ye (i := 2) (j := 8) ?_ ?_ <;> ((try refine Zk ?_); (first | (refine Ze (.func 39) ?_; refine qC rfl rfl (hrun) ?_; rintro v ρ' L' hle ⟨hz4, s, sp, os, rfl, hOR, rfl⟩ <;> (try simp only [kM, kN, kO])) | (refine Zn ?_; try intro _)) <;> ((try simp only [kM, kN, kO]); refine Zb ?_; refine Zl ?_))) | (refine Ye (i := 2) (j := 7) ?_ ?_ <;> ((try refine Zk ?_); (first | (refine Ze (.func 39) ?_; refine qC rfl rfl (hrun) ?_; rintro v ρ' L' hle ⟨hz4, s, sp, os, rfl, hOR, rfl⟩ <;> (try simp only [kM, kN, kO])) | (refine Zn ?_; try intro _)) <;> ((try simp only [kM, kN, kO]); refine Zb ?_; refine Zl ?_))))
   all_goals (first | (refine rStep3 (i := 6) (j := 7) (k := 8) ?_ ?_ ?_ <;> ((try refine Zk ?_); (first | (refine Ze (.func 40) ?_; refine qC rfl rfl (hwant _ (Hp.le_trans hz3 (Hp.le_trans hz4 hz5)) v4 r4 hR4 (hp4.trans hpw)) ?_; rintro v ρ' L' hle ⟨hz6, v2, r2, rfl, hR6, hp6, rfl⟩ <;> (try simp only [kM, kN, kO])) | (refine Zn ?_; try intro _)) <;> ((try simp only [kM, kN, kO]); refine Zb ?_; refine Zl ?_))) | (refine Ye (i := 5) (j := 8) ?_ ?_ <;> ((try refine Zk ?_); (first | (refine Ze (.func 38) ?_; refine qC rfl rfl (hcp2 _ (hRw.mono hz4)) ?_; rintro v ρ' L' hle ⟨hz5, v4, r4, rfl, hR4, hp4, rfl⟩ <;> (try simp only [kM, kN, kO])) | (refine Zn ?_; try intro _)) <;> ((try simp only [kM, kN, kO]); refine Zb ?_; refine Zl ?_))) | (refine Ye (i := 5) (j := 7) ?_ ?_ <;> ((try refine Zk ?_); (first | (refine Ze (.func 38) ?_; refine qC rfl rfl (hcp2 _ (hRw.mono hz4)) ?_; rintro v ρ' L' hle ⟨hz5, v4, r4, rfl, hR4, hp4, rfl⟩ <;> (try simp only [kM, kN, kO])) | (refine Zn ?_; try intro _)) <;> ((try simp only [kM, kN, kO]); refine Zb ?_; refine Zl ?_))) | (refine Zp (i := 2) ?_; ((try refine Zk ?_); (first | (refine Ze (.func 39) ?_; refine qC rfl rfl (hrun) ?_; rintro v ρ' L' hle ⟨hz4, s, sp, os, rfl, hOR, rfl⟩ <;> (try simp only [kM, kN, kO])) | (refine Zn ?_; try intro _)) <;> ((try simp only [kM, kN, kO]); refine Zb ?_; refine Zl ?_))))
   all_goals (first | (refine Ye (i := 7) (j := 8) ?_ ?_ <;> ((try refine Zk ?_); (first | (refine Zn ?_; try intro _)) <;> ((try simp only [kM, kN, kO]); refine Zb ?_; refine Zl ?_))) | (refine Ye (i := 6) (j := 8) ?_ ?_ <;> ((try refine Zk ?_); (first | (refine Ze (.func 40) ?_; refine qC rfl rfl (hwant _ (Hp.le_trans hz3 (Hp.le_trans hz4 hz5)) v4 r4 hR4 (hp4.trans hpw)) ?_; rintro v ρ' L' hle ⟨hz6, v2, r2, rfl, hR6, hp6, rfl⟩ <;> (try simp only [kM, kN, kO])) | (refine Zn ?_; try intro _)) <;> ((try simp only [kM, kN, kO]); refine Zb ?_; refine Zl ?_))) | (refine Ye (i := 6) (j := 7) ?_ ?_ <;> ((try refine Zk ?_); (first | (refine Ze (.func 40) ?_; refine qC rfl rfl (hwant _ (Hp.le_trans hz3 (Hp.le_trans hz4 hz5)) v4 r4 hR4 (hp4.trans hpw)) ?_; rintro v ρ' L' hle ⟨hz6, v2, r2, rfl, hR6, hp6, rfl⟩ <;> (try simp only [kM, kN, kO])) | (refine Zn ?_; try intro _)) <;> ((try simp only [kM, kN, kO]); refine Zb ?_; refine Zl ?_))) | (refine Zp (i := 5) ?_; ((try refine Zk ?_); (first | (refine Ze (.func 38) ?_; refine qC rfl rfl (hcp2 _ (hRw.mono hz4)) ?_; rintro v ρ' L' hle ⟨hz5, v4, r4, rfl, hR4, hp4, rfl⟩ <;> (try simp only [kM, kN, kO])) | (refine Zn ?_; try intro _)) <;> ((try simp only [kM, kN, kO]); refine Zb ?_; refine Zl ?_))))
   all_goals (first | (refine Zp (i := 8) ?_; ((try refine Zk ?_); (first | (refine Zn ?_; try intro _)) <;> ((try simp only [kM, kN, kO]); refine Zb ?_; refine Zl ?_))) | (refine Zp (i := 7) ?_; ((try refine Zk ?_); (first | (refine Zn ?_; try intro _)) <;> ((try simp only [kM, kN, kO]); refine Zb ?_; refine Zl ?_))) | (refine Zp (i := 6) ?_; ((try refine Zk ?_); (first | (refine Ze (.func 40) ?_; refine qC rfl rfl (hwant _ (Hp.le_trans hz3 (Hp.le_trans hz4 hz5)) v4 r4 hR4 (hp4.trans hpw)) ?_; rintro v ρ' L' hle ⟨hz6, v2, r2, rfl, hR6, hp6, rfl⟩ <;> (try simp only [kM, kN, kO])) | (refine Zn ?_; try intro _)) <;> ((try simp only [kM, kN, kO]); refine Zb ?_; refine Zl ?_))))
   all_goals (refine Zp (i := 9) ?_; ((try refine Zk ?_); (first | (refine Zn ?_; try intro _)) <;> ((try simp only [kM, kN, kO]); refine Zb ?_; refine Zl ?_)))
   all_goals (refine Zp (i := 10) ?_; ((try refine Zk ?_); (first | (refine Zn ?_; try intro _)) <;> ((try simp only [kM, kN, kO]); refine Zb ?_; refine Zl ?_)))
   all_goals refine ZI ?_
   all_goals refine te_cut_g ((_, _, _, s, sp, os, v2, r2)) (⟨Hp.le_trans hz3 (Hp.le_trans hz4 (Hp.le_trans hz5 hz6)), hR2.mono (Hp.le_trans hz4 (Hp.le_trans hz5 hz6)), hRw.mono (Hp.le_trans hz4 (Hp.le_trans hz5 hz6)), hOR, hR6, hp6⟩) Zm Zm rfl tk inferInstance
  rintro ⟨ρ2, b9, b10, s, sp, os, v2, r2⟩ ⟨hz7, hR7, hRw7, hOR, hR27, hp27⟩
  simp only [List.cons_append, List.nil_append] at hz7 hR7 hRw7 hOR hR27 hp27 ⊢
  obtain ⟨sa, sn, sc⟩ := s
  dsimp only at hOR ⊢
  obtain rfl : sn = os.length := hOR.own.nn.1
  have hS1 := same18_own ρ2 ⟨sa, os.length, sc⟩ sp os PP hOR hPB hPl v2 r2 hR27
  rw [hp27, decide_eq_true (rfl : PP = PP)] at hS1
  have hS2 : ∀ ρ4, ρ2.le ρ4 → Spec Tryz.prog 19 [.agg ⟨Yh v ro⟩, .agg ⟨Yh vw rw'⟩] ρ4 [] (fun z ρ' L' => z = .bool true ∧ ρ' = ρ4 ∧ L' = []) := fun ρ4 hh => by
   have := same18_spec ρ4 v vw ro rw' (hR7.mono hh) (hRw7.mono hh)
   rwa [hpw, decide_eq_true (rfl : ro.p = ro.p)] at this
  have hol : os.length ≤ 1000000 := by have := hOR.len; omega
  have hcp3 := copy18_spec ρ2 v2 r2 hR27 (by rw [hp27]; exact hPB)
  repeat' (first | (refine Ze (.func 19) ?_; refine qC rfl rfl (hS1) ?_; rintro v ρ' L' hle ⟨rfl, rfl, rfl⟩ <;> (try simp only [kM, kN, kO])) | (refine Ze (.func 19) ?_; refine qC rfl rfl (hS2 _ (Hp.le_refl _)) ?_; rintro v ρ' L' hle ⟨rfl, rfl, rfl⟩ <;> (try simp only [kM, kN, kO])) | (refine Ze (.func 38) ?_; refine qC rfl rfl (hcp3) ?_; rintro v ρ' L' hle ⟨hz8, v3, r3, rfl, hR3, hp3, rfl⟩ <;> (try simp only [kM, kN, kO])) | (refine ZE ?_; refine Zo (Zd rfl) rfl rfl ?_) | (refine Zj ?_; first | (refine Zf ?_; refine qQ ?_) | refine Zn ?_) | refine Zb ?_ | (refine Zi ?_; refine Zv ?_) | (refine Zh ?_; refine Zu ?_) | intro _)
  rename_i b11
  refine ZB [(4, _), (5, _), (8, _), (9, _), (11, _), (19, _), (20, _), (21, _), (72, _)] (fun (ζ : (Nat) × (List (Nat × Obj))) => [(73, .int .i64 ζ.1)]) (fun (ζ : (Nat) × (List (Nat × Obj))) => ρ') (fun (ζ : (Nat) × (List (Nat × Obj))) => [[(b5, .cells ⟨Yh v ro⟩ 34 (0, 0))], [(b8, .cells ⟨Yh vw rw'⟩ 34 (0, 0))], [(b9, .cells ⟨[.int .i64 PP.next, .slice sa os.length sc, .int .i64 NN, .int .i64 EE]⟩ 67 (0, 0))], [(b11, .cells ⟨Yh v3 r3⟩ 34 (0, 0))], ZK (.slice sa os.length sc) (txF os) sp 72, ζ.2 ++ stC (os.drop ζ.1)]) (fun (ζ : (Nat) × (List (Nat × Obj))) => ζ.1 ≤ os.length) (fun (ζ : (Nat) × (List (Nat × Obj))) => os.length - ζ.1) ((0, [])) (Nat.zero_le _) Zm Zm rfl tk ?_
  rintro ⟨q, Z⟩ hI
  try simp only [List.cons_append, List.nil_append, List.append_assoc, List.append_eq] at hI ⊢
  try dsimp only at hI ⊢
  by_cases hq : q < os.length
  ·have hoo := hOR.each _ (List.getElem_mem hq)
   have hbd := hPB (os[q]).x.p (by rw [← hOR.says]; exact List.mem_map.2 ⟨_, List.getElem_mem hq, rfl⟩)
   have hF := txF_split os q hq
   have hC := stC_split os q hq
   have hTl : (txF (os.take q)).length = 0 + q * 7 := by rw [WL, List.length_take]; omega
   generalize os[q] = o' at *
   generalize txF (os.drop (q + 1)) = TT at *
   obtain ⟨⟨num, st, fi, la, un, sk, mk, ⟨ka, kn, kc⟩, ⟨ma, mn, mc⟩⟩, ss, ms⟩ := o'
   obtain ⟨hs, hm⟩ := hoo
   dsimp only [Tx.p] at hs hm hF hC hbd
   obtain ⟨hbd1, hbd2⟩ := hbd
   obtain rfl : kn = sk.length := hs.nn.1
   obtain rfl : mn = mk.length := hm.nn.1
   rcases hOR.own.out with ⟨_, e0, _, _⟩ | ⟨bb, cap, e0, _, _, _⟩
   ·omega
   cases e0
   have hCe : ZK (.slice (some ⟨bb, 0, none⟩) os.length sc) (txF os) sp 72 = [(bb, .cells ⟨txF (os.take q) ++ (.int .i64 num :: .int .i64 st :: .int .u64 fi :: .int .u64 la :: .int .u64 un :: .slice ka sk.length kc :: .slice ma mk.length mc :: (TT ++ sp))⟩ 72 (0, 0))] := by
    rw [hF]
    show [(bb, Obj.cells ⟨(txF (os.take q) ++ (_ ++ TT)) ++ sp⟩ 72 (0, 0))] = _
    simp only [List.append_assoc, List.cons_append, List.nil_append]
   have hC' : stC (os.drop q) = (ZK (.slice ka sk.length kc) ((sk.map lfV).flatten) ss 74 ++ ZK (.slice ma mk.length mc) (mk.map ZU) ms 24) ++ stC (os.drop (q + 1)) := hC
   rw [hCe, hC']
   refine tc_split Z ((ZK (.slice ka sk.length kc) ((sk.map lfV).flatten) ss 74 ++ ZK (.slice ma mk.length mc) (mk.map ZU) ms 24) ++ stC (os.drop (q + 1))) ?_
   refine tc_split (ZK (.slice ka sk.length kc) ((sk.map lfV).flatten) ss 74 ++ ZK (.slice ma mk.length mc) (mk.map ZU) ms 24) (stC (os.drop (q + 1))) ?_
   refine tc_split (ZK (.slice ka sk.length kc) ((sk.map lfV).flatten) ss 74) (ZK (.slice ma mk.length mc) (mk.map ZU) ms 24) ?_
   have hg5 : (txF (os.take q) ++ (.int .i64 num :: .int .i64 st :: .int .u64 fi :: .int .u64 la :: .int .u64 un :: .slice ka sk.length kc :: .slice ma mk.length mc :: (TT ++ sp)))[0 + q * 7 + 5]? = some (.slice ka sk.length kc) := Wp hTl rfl
   have hg6 : (txF (os.take q) ++ (.int .i64 num :: .int .i64 st :: .int .u64 fi :: .int .u64 la :: .int .u64 un :: .slice ka sk.length kc :: .slice ma mk.length mc :: (TT ++ sp)))[0 + q * 7 + 6]? = some (.slice ma mk.length mc) := Wp hTl rfl
   repeat' (first | (refine ZE ?_; refine Zo (Zd rfl) rfl rfl ?_) | (refine Zj ?_; first | (refine Zf ?_; refine qQ ?_) | refine Zn ?_) | refine Zb ?_ | (refine Zi ?_; refine Zv ?_) | (refine Zh ?_; refine Zu ?_) | intro _)
   refine ZB [(4, _), (5, _), (8, _), (9, _), (11, _), (12, _), (19, _), (20, _), (21, _), (72, _), (73, _), (83, _)] (fun (ζ : (Nat) × (List Lf)) => [(84, .int .i64 ζ.1)]) (fun (ζ : (Nat) × (List Lf)) => ρ') (fun (ζ : (Nat) × (List Lf)) => [[(b5, .cells ⟨Yh v ro⟩ 34 (0, 0))], [(b8, .cells ⟨Yh vw rw'⟩ 34 (0, 0))], [(b9, .cells ⟨[.int .i64 PP.next, .slice (some ⟨bb, 0, none⟩) os.length sc, .int .i64 NN, .int .i64 EE]⟩ 67 (0, 0))], [(b11, .cells ⟨Yh v3 r3⟩ 34 (0, 0))], [(bb, .cells ⟨txF (os.take q) ++ (.int .i64 num :: .int .i64 st :: .int .u64 fi :: .int .u64 la :: .int .u64 un :: .slice ka sk.length kc :: .slice ma mk.length mc :: (TT ++ sp))⟩ 72 (0, 0))], Z, ZK (.slice ka sk.length kc) ((ζ.2.map lfV).flatten ++ ((sk.drop ζ.1).map lfV).flatten) ss 74, ZK (.slice ma mk.length mc) (mk.map ZU) ms 24, stC (os.drop (q + 1))]) (fun (ζ : (Nat) × (List Lf)) => ζ.1 ≤ sk.length ∧ ζ.2.length = ζ.1) (fun (ζ : (Nat) × (List Lf)) => sk.length - ζ.1) ((0, [])) (⟨Nat.zero_le _, rfl⟩) Zm Zm rfl tk ?_
   rintro ⟨j, A⟩ hI
   try simp only [List.cons_append, List.nil_append, List.append_assoc, List.append_eq] at hI ⊢
   try dsimp only at hI ⊢
   obtain ⟨hj0, hAl⟩ := hI
   by_cases hj : j < sk.length
   ·rcases hs.out with ⟨_, e2, _, _⟩ | ⟨b2, cap2, e2, _, _, _⟩
    ·omega
    cases e2
    have hx := List.drop_eq_getElem_cons hj
    generalize sk[j] = y at *
    have hAl2 : ((A.map lfV).flatten).length = 0 + j * 2 := by rw [YX WA, hAl]; omega
    have hSe : ZK (.slice (some ⟨b2, 0, none⟩) sk.length kc) ((A.map lfV).flatten ++ ((sk.drop j).map lfV).flatten) ss 74 = [(b2, .cells ⟨(A.map lfV).flatten ++ (.int .u64 y.lsn :: .int .i64 y.cost :: (((sk.drop (j + 1)).map lfV).flatten ++ ss))⟩ 74 (0, 0))] := by
     rw [hx]
     show [(b2, Obj.cells ⟨((A.map lfV).flatten ++ ((y :: sk.drop (j + 1)).map lfV).flatten) ++ ss⟩ 74 (0, 0))] = _
     simp only [List.map_cons, List.flatten_cons, List.append_assoc, List.cons_append, List.nil_append]
    rw [hSe]
    have hg1 : ((A.map lfV).flatten ++ (.int .u64 y.lsn :: .int .i64 y.cost :: (((sk.drop (j + 1)).map lfV).flatten ++ ss)))[0 + j * 2 + 1]? = some (.int .i64 y.cost) := Wp hAl2 rfl
    repeat' (first | (refine ZZ (o := 0 + j * 2) (d := 1) (P := (A.map lfV).flatten) rfl rfl hAl2 rfl ?_) | (refine ZE ?_; refine Zo (Zd rfl) rfl rfl ?_) | (refine Zj ?_; first | (refine Zf ?_; refine qQ ?_) | refine Zn ?_) | refine Zb ?_ | (refine Zi ?_; refine Zv ?_) | (refine Zh ?_; refine Zu ?_) | intro _)
    have hre : (A.map lfV).flatten ++ (.int .u64 y.lsn :: .int .i64 (IntKind.i64.wrap (y.cost + 1)) :: (((sk.drop (j + 1)).map lfV).flatten ++ ss)) = (((A ++ [(⟨y.lsn, IntKind.i64.wrap (y.cost + 1)⟩ : Lf)]).map lfV).flatten ++ ((sk.drop (j + 1)).map lfV).flatten) ++ ss := by simp
    rw [hre]
    refine Zq (j + 1, A ++ [⟨y.lsn, IntKind.i64.wrap (y.cost + 1)⟩]) (⟨hj, by rw [List.length_append, hAl]; rfl⟩) Zm Zm rfl tk inferInstance (by first | omega | (dsimp only; omega))
   ·repeat' (first | (refine ZE ?_; refine Zo (Zd rfl) rfl rfl ?_) | (refine Zj ?_; first | (refine Zf ?_; refine qQ ?_) | refine Zn ?_) | refine Zb ?_ | (refine Zi ?_; refine Zv ?_) | (refine Zh ?_; refine Zu ?_) | intro _)
    refine ZB [(4, _), (5, _), (8, _), (9, _), (11, _), (12, _), (19, _), (20, _), (21, _), (72, _), (73, _), (109, _)] (fun (ζ : (Nat) × (List Int)) => [(110, .int .i64 ζ.1)]) (fun (ζ : (Nat) × (List Int)) => ρ') (fun (ζ : (Nat) × (List Int)) => [[(b5, .cells ⟨Yh v ro⟩ 34 (0, 0))], [(b8, .cells ⟨Yh vw rw'⟩ 34 (0, 0))], [(b9, .cells ⟨[.int .i64 PP.next, .slice (some ⟨bb, 0, none⟩) os.length sc, .int .i64 NN, .int .i64 EE]⟩ 67 (0, 0))], [(b11, .cells ⟨Yh v3 r3⟩ 34 (0, 0))], [(bb, .cells ⟨txF (os.take q) ++ (.int .i64 num :: .int .i64 st :: .int .u64 fi :: .int .u64 la :: .int .u64 un :: .slice ka sk.length kc :: .slice ma mk.length mc :: (TT ++ sp))⟩ 72 (0, 0))], Z, ZK (.slice ka sk.length kc) ((A.map lfV).flatten ++ ((sk.drop j).map lfV).flatten) ss 74, ZK (.slice ma mk.length mc) (ζ.2.map uV ++ (mk.drop ζ.1).map ZU) ms 24, stC (os.drop (q + 1))]) (fun (ζ : (Nat) × (List Int)) => ζ.1 ≤ mk.length ∧ ζ.2.length = ζ.1) (fun (ζ : (Nat) × (List Int)) => mk.length - ζ.1) ((0, [])) (⟨Nat.zero_le _, rfl⟩) Zm Zm rfl tk ?_
    rintro ⟨i, B⟩ hI
    try simp only [List.cons_append, List.nil_append, List.append_assoc, List.append_eq] at hI ⊢
    try dsimp only at hI ⊢
    obtain ⟨hi0, hBl⟩ := hI
    by_cases hi : i < mk.length
    ·rcases hm.out with ⟨_, e2, _, _⟩ | ⟨b2, cap2, e2, _, _, _⟩
     ·omega
     cases e2
     have hx := List.drop_eq_getElem_cons hi
     generalize mk[i] = y at *
     have hBl2 : (B.map uV).length = 0 + i * 1 := by rw [List.length_map, hBl]; omega
     have hMe : ZK (.slice (some ⟨b2, 0, none⟩) mk.length mc) (B.map uV ++ (mk.drop i).map ZU) ms 24 = [(b2, .cells ⟨B.map uV ++ (.int .u64 y :: ((mk.drop (i + 1)).map ZU ++ ms))⟩ 24 (0, 0))] := by
      rw [hx]
      show [(b2, Obj.cells ⟨(B.map uV ++ (y :: mk.drop (i + 1)).map ZU) ++ ms⟩ 24 (0, 0))] = _
      simp only [List.map_cons, List.append_assoc, List.cons_append]
     rw [hMe]
     have hg1 : (B.map uV ++ (.int .u64 y :: ((mk.drop (i + 1)).map ZU ++ ms)))[0 + i * 1]? = some (.int .u64 y) := Wp (d := 0) hBl2 rfl
     repeat' (first | (refine ZZ (o := 0 + i * 1) (d := 0) (P := B.map uV) rfl rfl hBl2 rfl ?_) | (refine ZE ?_; refine Zo (Zd rfl) rfl rfl ?_) | (refine Zj ?_; first | (refine Zf ?_; refine qQ ?_) | refine Zn ?_) | refine Zb ?_ | (refine Zi ?_; refine Zv ?_) | (refine Zh ?_; refine Zu ?_) | intro _)
     have hre : B.map uV ++ (.int .u64 (IntKind.u64.wrap (y + 1)) :: ((mk.drop (i + 1)).map ZU ++ ms)) = ((B ++ [IntKind.u64.wrap (y + 1)]).map uV ++ (mk.drop (i + 1)).map ZU) ++ ms := by simp
     rw [hre]
     refine Zq (i + 1, B ++ [IntKind.u64.wrap (y + 1)]) (⟨hi, by rw [List.length_append, hBl]; rfl⟩) Zm Zm rfl tk inferInstance (by first | omega | (dsimp only; omega))
    ·repeat' (first | (refine ZE ?_; refine Zo (Zd rfl) rfl rfl ?_) | (refine Zj ?_; first | (refine Zf ?_; refine qQ ?_) | refine Zn ?_) | refine Zb ?_ | (refine Zi ?_; refine Zv ?_) | (refine Zh ?_; refine Zu ?_) | intro _)
     refine XQ (ZK (.slice ka sk.length kc) ((A.map lfV).flatten ++ ((sk.drop j).map lfV).flatten) ss 74) (ZK (.slice ma mk.length mc) (B.map uV ++ (mk.drop i).map ZU) ms 24) ?_
     refine XQ Z (ZK (.slice ka sk.length kc) ((A.map lfV).flatten ++ ((sk.drop j).map lfV).flatten) ss 74 ++ ZK (.slice ma mk.length mc) (B.map uV ++ (mk.drop i).map ZU) ms 24) ?_
     refine XQ (Z ++ (ZK (.slice ka sk.length kc) ((A.map lfV).flatten ++ ((sk.drop j).map lfV).flatten) ss 74 ++ ZK (.slice ma mk.length mc) (B.map uV ++ (mk.drop i).map ZU) ms 24)) (stC (os.drop (q + 1))) ?_
     rw [← hCe]
     refine Zq (q + 1, Z ++ (ZK (.slice ka sk.length kc) ((A.map lfV).flatten ++ ((sk.drop j).map lfV).flatten) ss 74 ++ ZK (.slice ma mk.length mc) (B.map uV ++ (mk.drop i).map ZU) ms 24)) (hq) Zm Zm rfl tk inferInstance (by first | omega | (dsimp only; omega))
  ·by_cases he : EE = 0
   ·subst he
    repeat' (first | (refine Ze (.func 19) ?_; refine qC rfl rfl (hS2 _ hz8) ?_; rintro v ρ' L' hle ⟨rfl, rfl, rfl⟩ <;> (try simp only [kM, kN, kO])) | (refine ZE ?_; refine Zo (Zd rfl) rfl rfl ?_) | (refine Zj ?_; first | (refine Zf ?_; refine qQ ?_) | refine Zn ?_) | refine Zb ?_ | (refine Zi ?_; refine Zv ?_) | (refine Zh ?_; refine Zu ?_) | intro _)
    rw [← e1]
    refine Zq (k + 1, ρ', v3, r3) (⟨hlt, Hp.le_trans hle0 (Hp.le_trans hz7 hz8), hR3, by rw [hp3, hp27]; exact hPB⟩) Zm Zm rfl tk inferInstance (by first | omega | (dsimp only; omega))
   ·repeat' (first | (refine Ze (.func 19) ?_; refine qC rfl rfl (hS2 _ hz8) ?_; rintro v ρ' L' hle ⟨rfl, rfl, rfl⟩ <;> (try simp only [kM, kN, kO])) | (refine ZE ?_; refine Zo (Zd rfl) rfl rfl ?_) | (refine Zj ?_; first | (refine Zf ?_; refine qQ ?_) | refine Zn ?_) | refine Zb ?_ | (refine Zi ?_; refine Zv ?_) | (refine Zh ?_; refine Zu ?_) | intro _)
    rw [← e1]
    refine Zq (k + 1, ρ', v, ro) (⟨hlt, Hp.le_trans hle0 (Hp.le_trans hz7 hz8), hR7.mono hz8, hB⟩) Zm Zm rfl tk inferInstance (by first | omega | (dsimp only; omega))
 ·repeat' (first | (refine ZE ?_; refine Zo (Zd rfl) rfl rfl ?_) | (refine Zj ?_; first | (refine Zf ?_; refine qQ ?_) | refine Zn ?_) | refine Zb ?_ | (refine Zi ?_; refine Zv ?_) | (refine Zh ?_; refine Zu ?_) | intro _)
  exact qE (L' := []) (hle := hle0) ⟨rfl, hle0, rfl⟩
end Go.Proofs.E
