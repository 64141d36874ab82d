/- The law RosterMarks. Part 16 of 20. -/
import Derived.Test.YtkbiahafeoillaaGreatU15
namespace Go.Proofs.E
open Go
set_option linter.unusedVariables false
set_option linter.unusedSimpArgs false
set_option linter.unusedSectionVars false
set_option maxRecDepth 4000
set_option maxHeartbeats 1000000
attribute [local irreducible] Yl TL TC TE Spec Wh R1 Hp.le EnvLe TS TR YS Zq
def cT (t : TxP) : Int := (costL t).sum
theorem resN_map (l : List TxP) : (resL l).sum = (l.map cT).sum := by
 induction l with
 | nil => rfl
 | cons t r ih =>
  show ((t :: r).flatMap costL).sum = _
  rw [List.flatMap_cons, List.sum_append, List.map_cons, List.sum_cons]
  show (costL t).sum + (resL r).sum = _
  rw [ih]; rfl
theorem cT_eq (t : TxP) : cT t = 1 + (if t.state = 1 then 1 else 0) + (t.stack.map Lf.cost).sum := by
 unfold cT costL
 rw [List.sum_cons, List.sum_append]
 split <;> simp <;> omega
theorem sum_nn : ∀ {l : List Int}, (∀ x ∈ l, 0 ≤ x) → 0 ≤ l.sum
 | [], _ => Int.le_refl _
 | x :: r, h => by
  have h1 := h x (by simp)
  have h2 := sum_nn (l := r) (fun y hy => h y (by simp [hy]))
  rw [List.sum_cons]; omega
theorem sum_put {n : Int} {t t' : TxP} : ∀ {l : List TxP}, l.Pairwise (fun a b => a.num < b.num) → l.find? (fun x => decide (x.num = n)) = some t → ((l.map (fun x => if x.num = n then t' else x)).map cT).sum = (l.map cT).sum - cT t + cT t'
 | [], _, h => by cases h
 | x :: r, hp, h => by
  rw [List.pairwise_cons] at hp
  rw [List.find?_cons] at h
  simp only [List.map_cons, List.sum_cons]
  by_cases e : x.num = n
  ·rw [if_pos e]
   rw [show decide (x.num = n) = true from decide_eq_true e] at h
   cases h
   have hm : r.map (fun x => if x.num = n then t' else x) = r := by
    conv => rhs; rw [← List.map_id r]
    refine List.map_congr_left fun y hy => ?_
    have := hp.1 y hy
    rw [if_neg (show ¬ y.num = n by omega)]; rfl
   rw [hm]; omega
  ·rw [if_neg e]
   rw [show decide (x.num = n) = false from decide_eq_false e] at h
   have := sum_put (t' := t') hp.2 h
   rw [this]; omega
theorem sum_drop {n : Int} {t : TxP} : ∀ {l : List TxP}, l.Pairwise (fun a b => a.num < b.num) → l.find? (fun x => decide (x.num = n)) = some t → ((l.filter (fun x => decide (x.num ≠ n))).map cT).sum = (l.map cT).sum - cT t
 | [], _, h => by cases h
 | x :: r, hp, h => by
  rw [List.pairwise_cons] at hp
  rw [List.find?_cons] at h
  rw [List.filter_cons, List.map_cons, List.sum_cons]
  by_cases e : x.num = n
  ·rw [if_neg (by simp [e])]
   rw [show decide (x.num = n) = true from decide_eq_true e] at h
   cases h
   have hm : r.filter (fun x => decide (x.num ≠ n)) = r := List.filter_eq_self.2 fun y hy => by
    have := hp.1 y hy
    simp; omega
   rw [hm]; omega
  ·rw [if_pos (by simp [e]), List.map_cons, List.sum_cons]
   rw [show decide (x.num = n) = false from decide_eq_false e] at h
   have := sum_drop hp.2 h
   rw [this]; omega
theorem res_put {p : Yh} (h : RosG p) {n : Int} {t t' : TxP} (hf : Yq p n = some t) (hn : t'.num = n) : resN (XP p t') = resN p - cT t + cT t' := by
 unfold resN
 rw [resN_map, resN_map]
 unfold XP
 rw [hn]
 exact sum_put h.up hf
theorem res_drop {p : Yh} (h : RosG p) {n : Int} {t : TxP} (hf : Yq p n = some t) : resN (dropT p n) = resN p - cT t := by
 unfold resN
 rw [resN_map, resN_map]
 exact sum_drop h.up hf
theorem stack_nn {t : TxP} (h : TxG t) : ∀ x ∈ t.stack.map Lf.cost, 0 ≤ x := fun x hx => by
 obtain ⟨s, hs, rfl⟩ := List.mem_map.1 hx
 have := (h.st s hs).2.2.1
 omega
theorem sum_filter_le {q : Lf → Bool} : ∀ {l : List Lf}, (∀ x ∈ l, 0 ≤ x.cost) → ((l.filter q).map Lf.cost).sum ≤ (l.map Lf.cost).sum
 | [], _ => Int.le_refl _
 | x :: r, h => by
  have h1 := h x (by simp)
  have h2 := sum_filter_le (q := q) (l := r) (fun y hy => h y (by simp [hy]))
  rw [List.filter_cons, List.map_cons, List.sum_cons]
  split
  ·rw [List.map_cons, List.sum_cons]; omega
  ·omega
theorem cost_one {r : Rc} (h : Yp r = true) (k : 6 ≤ r.kind ∧ r.kind ≤ 8) : (costN r : Nat) = 1 := by
 unfold costN
 rw [if_pos h]
 have e : recTB r = [] := by
  unfold recTB
  rw [if_neg (by omega), if_neg (by omega), if_neg (by omega), if_neg (by omega), if_neg (by omega)]
 unfold recB recHB
 rw [e, List.append_nil]
 simp only [List.length_cons, List.length_append, ZJ]
 rfl
theorem asks_next {f : TxP → Int} {g : TxP → TxP} {p : Yh} {num : Int} (he : Xo f p num = 0) : (asksP f g p num).next = p.next := by
 unfold asksP askT
 rw [if_pos he]
 split <;> rfl
theorem asks_res {f : TxP → Int} {g : TxP → TxP} {p : Yh} {num : Int} (h : RosG p) (hg : ∀ t, (g t).num = t.num) (hc : ∀ t, cT (g t) = cT t) (he : Xo f p num = 0) : resN (asksP f g p num) = resN p := by
 unfold asksP askT
 rw [if_pos he]
 split
 ·rfl
 ·rename_i t ht
  rw [res_put h ht ((hg t).trans (findT_mem ht).2), hc t]; omega
structure Rooms (o : OpD) (p : Yh) (r : Rc) : Prop where
 ok : Xq (runP o p) = true
 n1 : p.next ≤ (runP o p).next
 n2 : (runP o p).next ≤ p.next + 1
 same : 4 < opK o → resN (runP o p) = resN p
 rcok : ¬ 4 < opK o → Yp r = true
 ends : ¬ 4 < opK o → 6 ≤ r.kind ∧ r.kind ≤ 8 → (costN r : Int) + resN (runP o p) - resN p ≤ 0
 undone : ¬ 4 < opK o → r.kind = 5 → ∃ t, Yq p r.txn = some t ∧ ∀ s, t.stack.getLast? = some s → r.next < s.lsn → (costN r : Int) ≤ s.cost → (costN r : Int) + resN (runP o p) - resN p ≤ 0
 begins : ¬ 4 < opK o → r.kind = 1 → r.txn = p.next ∧ (runP o p).next = p.next + 1
theorem lastP_le {p : Yh} (h : RosG p) : YH p ≤ 1099511627776 := lastF_le (Nat.zero_le _) fun t ht => (h.tx t ht).2.2.lm
theorem opK_lt (o : OpD) : 0 ≤ opK o ∧ opK o < 7 := by
 have h : IntKind.u64.wrap o.kind = o.kind % 18446744073709551616 := rfl
 have h1 : 0 ≤ IntKind.u64.wrap o.kind := by omega
 have h2 : opK o = (IntKind.u64.wrap o.kind) % 7 := Int.tmod_eq_emod_of_nonneg h1
 omega
theorem rooms {o : OpD} {p : Yh} (h : Xq p = true) (he : runE o p = 0) : Rooms o p (XO o p) := by
 have hG := Yw.1 h
 have hk := opK_lt o
 by_cases k5 : opK o = 5
 ·have e1 : runP o p = ZT p (opN o p) := if_pos k5
  have e2 : Xo markF p (opN o p) = 0 := by unfold runE at he; rw [if_pos k5] at he; exact he
  have e3 : (ZT p (opN o p)).next = p.next := asks_next e2
  refine ⟨?_, ?_, ?_, fun _ => ?_, fun k => absurd k (by omega), fun k => absurd k (by omega), fun k => absurd k (by omega), fun k => absurd k (by omega)⟩ <;> rw [e1]
  ·exact Yw.2 (asks_ok (fun _ => rfl) (fun t h1 h2 h3 => markG_ok h1 h2 h3) e2)
  ·omega
  ·omega
  ·exact asks_res hG (fun _ => rfl) (fun _ => rfl) e2
 by_cases k6 : opK o = 6
 ·have e1 : runP o p = cutP p (opN o p) o.n := (if_neg k5).trans (if_pos k6)
  have e2 : Xo (cutF o.n) p (opN o p) = 0 := by unfold runE at he; rw [if_neg k5, if_pos k6] at he; exact he
  have e3 : (cutP p (opN o p) o.n).next = p.next := asks_next e2
  refine ⟨?_, ?_, ?_, fun _ => ?_, fun k => absurd k (by omega), fun k => absurd k (by omega), fun k => absurd k (by omega), fun k => absurd k (by omega)⟩ <;> rw [e1]
  ·exact Yw.2 (asks_ok (fun _ => rfl) (fun t h1 h2 _ => cutG_ok h1 h2 o.n) e2)
  ·omega
  ·omega
  ·exact asks_res hG (fun _ => rfl) (fun _ => rfl) e2
 have e1 : runP o p = YD p (XO o p) := (if_neg k5).trans (if_neg k6)
 have e2 : Xa p (XO o p) = 0 := by unfold runE at he; rw [if_neg k5, if_neg k6] at he; exact he
 have e3 : YD p (XO o p) = Yv p (XO o p) := if_pos e2
 generalize XO o p = r at *
 have hr : Yp r = true := by
  unfold Xa at e2
  rw [if_pos h] at e2
  cases hr : Yp r
  ·rw [hr] at e2; cases e2
  ·rfl
 have e4 : XB p r = 0 := by
  unfold Xa at e2
  rw [if_pos h, if_pos hr] at e2
  exact e2
 have hok : RosG (Yv p r) := takes_ok hG hr e4
 have hkk : 1 ≤ r.kind ∧ r.kind ≤ 9 := by
  have hr := hr
  unfold Yp at hr
  rw [Bool.and_eq_true, decide_eq_true_eq] at hr
  exact hr.1
 have e5 : runP o p = Yv p r := e1.trans e3
 by_cases r9 : r.kind = 9
 ·have e6 : Yv p r = p := by unfold Yv; rw [if_pos r9]
  refine ⟨?_, ?_, ?_, fun k => absurd k (by omega), fun _ => hr, fun _ k => absurd k (by omega), fun _ k => absurd k (by omega), fun _ k => absurd k (by omega)⟩ <;> rw [e5]
  ·exact Yw.2 hok
  ·rw [e6]; omega
  ·rw [e6]; omega
 by_cases r1 : r.kind = 1
 ·have e6 : (Yv p r).next = p.next + 1 := by unfold Yv; rw [if_neg r9, if_pos r1]
  have e7 : r.txn = p.next := by
   unfold XB at e4
   rw [if_neg r9, if_pos r1] at e4
   by_cases hh : r.txn ≠ p.next ∨ p.next = 1073741824
   ·rw [if_pos hh] at e4; cases e4
   ·omega
  refine ⟨?_, ?_, ?_, fun k => absurd k (by omega), fun _ => hr, fun _ k => absurd k (by omega), fun _ k => absurd k (by omega), fun _ k => ⟨e7, ?_⟩⟩ <;> rw [e5]
  ·exact Yw.2 hok
  ·rw [e6]; omega
  ·rw [e6]; omega
  ·exact e6
 have e6 : Yv p r = ownP p (Yq p r.txn) r := by unfold Yv; rw [if_neg r9, if_neg r1]
 have e7 : ownE (Yq p r.txn) r = 0 := by unfold XB at e4; rw [if_neg r9, if_neg r1] at e4; exact e4
 cases hf : Yq p r.txn with
 | none => rw [hf] at e7; cases e7
 | some t =>
  rw [hf] at e6 e7
  have hm := findT_mem hf
  have hT := (hG.tx t hm.1).2.2
  have hnn := sum_nn (stack_nn hT)
  have hnn' : ∀ x ∈ t.stack, 0 ≤ x.cost := fun x hx => by have := (hT.st x hx).2.2.1; omega
  have e8 : (Yv p r).next = p.next := by rw [e6]; unfold ownP; dsimp only; split <;> rfl
  have hmay : ¬ r.kind = 8 → mayT t r = true := fun k8 => by
   unfold ownE at e7
   dsimp only at e7
   by_cases hp : r.prev ≠ t.last
   ·rw [if_pos hp] at e7; cases e7
   ·rw [if_neg hp, if_neg k8] at e7
    by_cases hy : mayT t r = true
    ·exact hy
    ·rw [if_neg hy] at e7; cases e7
  have hput : ¬ r.kind = 8 → Yv p r = XP p (Xj t r) := fun k8 => by rw [e6]; unfold ownP; exact if_neg k8
  have hnum : (Xj t r).num = r.txn := by
   rw [← hm.2]
   unfold Xj pushT backT
   split
   ·rfl
   ·split
    ·rfl
    ·split
     ·rfl
     ·split <;> rfl
  have hres : ¬ r.kind = 8 → resN (Yv p r) = resN p - cT t + cT (Xj t r) := fun k8 => by
   rw [hput k8]
   exact res_put hG hf hnum
  have ht := cT_eq t
  refine ⟨?_, ?_, ?_, fun k => absurd k (by omega), fun _ => hr, fun _ k => ?_, fun _ k => ⟨t, hf, fun s hs hlt hcs => ?_⟩, fun _ k => absurd k (by omega)⟩ <;> rw [e5]
  ·exact Yw.2 hok
  ·rw [e8]; omega
  ·rw [e8]; omega
  ·have hc := cost_one hr k
   have hs0 : 1 ≤ cT t := by rw [ht]; split <;> omega
   by_cases k8 : r.kind = 8
   ·have e9 : Yv p r = dropT p r.txn := by rw [e6]; unfold ownP; exact if_pos k8
    rw [e9, res_drop hG hf, hc]
    omega
   ·rw [hres k8, hc]
    have hl := hmay k8
    have hlive : t.state = 1 := by
     unfold mayT at hl
     rw [if_neg (by omega), if_neg (by omega)] at hl
     simpa [Wa] using hl
    rw [if_pos hlive] at ht
    by_cases k66 : r.kind = 6
    ·have : cT (Xj t r) = 1 := by
      unfold Xj
      rw [if_neg (by omega), if_neg (by omega), if_neg (by omega), if_pos k66, cT_eq]
      simp
     omega
    ·have : cT (Xj t r) = 1 + (t.stack.map Lf.cost).sum := by
      unfold Xj
      rw [if_neg (by omega), if_neg (by omega), if_neg (by omega), if_neg k66, cT_eq]
      simp
     omega
  ·rw [hres (by omega)]
   obtain ⟨l, hl⟩ := List.getLast?_eq_some_iff.1 hs
   have e9 : Xj t r = backT { t with last := r.lsn } r.next := by
    unfold Xj
    rw [if_neg (by omega), if_pos (.inr k)]
   have hb := cT_eq (Xj t r)
   have e10 : (Xj t r).state = t.state := by rw [e9]; rfl
   have e11 : (Xj t r).stack = t.stack.filter (fun s => decide (s.lsn ≤ r.next)) := by rw [e9]; rfl
   have hsum : ((Xj t r).stack.map Lf.cost).sum ≤ (l.map Lf.cost).sum := by
    rw [e11, hl, List.filter_append, List.filter_cons_of_neg (by simp; omega), List.filter_nil, List.append_nil]
    exact sum_filter_le (fun x hx => hnn' x (by rw [hl]; simp [hx]))
   have hst : (t.stack.map Lf.cost).sum = (l.map Lf.cost).sum + s.cost := by rw [hl]; simp
   rw [e10] at hb
   omega
theorem find_set {p : Yh} (h : RosG p) {i : Nat} (hi : i < p.txns.length) {t : TxP} (ht : t.num = (p.txns[i]).num) : Yq (XP p t) t.num = some t := by
 have hs := putT_set h hi ht
 have hl : i < (XP p t).txns.length := by rw [hs]; simpa using hi
 have hg : (XP p t).txns[i] = t := by simp [hs]
 unfold Yq
 rw [List.find?_eq_some_iff_getElem]
 refine ⟨by simp, i, hl, hg, fun j hj => ?_⟩
 have hne : (XP p t).txns[j]'(by omega) = p.txns[j]'(by rw [putT_len] at hl; omega) := by
  simp only [hs]
  rw [List.getElem_set_ne (by omega)]
 rw [hne, ht]
 have := List.pairwise_iff_getElem.1 h.up j i (by rw [putT_len] at hl; omega) hi hj
 simp only [Bool.not_eq_true', decide_eq_false_iff_not]; omega
theorem put_put (p : Yh) {t s : TxP} (h : t.num = s.num) : XP (XP p t) s = XP p s := by
 unfold XP
 congr 1
 rw [List.map_map]
 refine List.map_congr_left (fun x _ => ?_)
 simp only [Function.comp]
 by_cases e : x.num = t.num
 ·rw [if_pos e, if_pos h, if_pos (e.trans h)]
 ·rw [if_neg e]
theorem resPutC {p : Yh} {t s : TxP} (h : t.num = s.num) (hc : costL t = costL s) : resN (XP p t) = resN (XP p s) := by
 unfold resN resL XP
 congr 1
 dsimp only
 rw [List.flatMap_map, List.flatMap_map]
 congr 1
 funext x
 by_cases e : x.num = t.num
 ·rw [if_pos e, if_pos (e.trans h), hc]
 ·rw [if_neg e, if_neg (fun e2 => e (e2.trans h.symm))]
structure MarkL (p : Yh) (t : TxP) : Prop where
 k : markK p t.num = ((t.marks.length + 1 : Nat) : Int)
 a : ZT p t.num = XP p (Xk t)
 live : t.state = 1
 g : RosG (ZT p t.num)
 we : whereE (ZT p t.num) t.num ((t.marks.length + 1 : Nat) : Int) = 0
 wv : whereV (ZT p t.num) t.num ((t.marks.length + 1 : Nat) : Int) = t.undo
 ce : cutE (ZT p t.num) t.num ((t.marks.length + 1 : Nat) : Int) = 0
 cp : cutP (ZT p t.num) t.num ((t.marks.length + 1 : Nat) : Int) = ZT p t.num
theorem mark_law {p : Yh} (h : RosG p) {t : TxP} (ht : t ∈ p.txns) (he : markE p t.num = 0) : MarkL p t := by
 obtain ⟨i, hi, rfl⟩ := List.mem_iff_getElem.1 ht
 have hf := findT_idx h hi
 generalize hT : p.txns[i] = t at *
 have hok : Xq p = true := Yw.2 h
 have hae : askE markF (some t) = 0 := by
  have := he
  unfold markE Xo at this
  rw [hok, hf] at this
  exact this
 have hs : t.state = 1 := by
  by_cases hs : t.state = 1
  ·exact hs
  ·have : askE markF (some t) = 2 := if_neg hs
   rw [this] at hae; cases hae
 have ha : ZT p t.num = XP p (Xk t) := by unfold ZT asksP; rw [if_pos (show Xo markF p t.num = 0 from he), hf]; rfl
 have hg : RosG (ZT p t.num) := asks_ok (fun _ => rfl) (fun t h1 h2 h3 => markG_ok h1 h2 h3) he
 have hfa : Yq (XP p (Xk t)) t.num = some (Xk t) := find_set h hi (t := Xk t) (by rw [hT]; rfl)
 have hok2 : Xq (XP p (Xk t)) = true := Yw.2 (by rw [← ha]; exact hg)
 have hgd : (Xk t).marks.getD (((t.marks.length + 1 : Nat) : Int) - 1).toNat 0 = t.undo := by
  rw [show (((t.marks.length + 1 : Nat) : Int) - 1).toNat = t.marks.length by omega]
  simp [Xk]
 have hln : (Xk t).marks.length = t.marks.length + 1 := by simp [Xk]
 have hw0 : whereF ((t.marks.length + 1 : Nat) : Int) (Xk t) = 0 := if_neg (by rw [hln]; omega)
 have hc0 : cutF ((t.marks.length + 1 : Nat) : Int) (Xk t) = 0 := by
  unfold cutF
  rw [if_neg (by rw [hln]; omega), hgd, if_neg (by simp [Xk])]
 have hce : Xo (cutF ((t.marks.length + 1 : Nat) : Int)) (XP p (Xk t)) t.num = 0 := by
  unfold Xo
  rw [hok2, hfa]
  exact (if_pos hs).trans hc0
 refine ⟨?_, ha, hs, hg, ?_, ?_, ?_, ?_⟩
 ·unfold markK marksN; rw [if_pos he, hf]
 ·rw [ha]
  unfold whereE Xo
  rw [hok2, hfa]
  exact (if_pos hs).trans hw0
 ·rw [ha]; unfold whereV whereN; rw [hfa]; exact hgd
 ·rw [ha]; exact hce
 ·rw [ha]
  unfold cutP asksP
  rw [if_pos hce, hfa]
  show XP (XP p (Xk t)) (cutG _ (Xk t)) = _
  rw [put_put p (by rfl)]
  congr 1
  unfold cutG
  rw [Int.toNat_natCast, List.take_of_length_le (by rw [hln]; exact Nat.le_refl _)]
theorem lastF_ge : ∀ (l : List TxP) (n : Nat), n ≤ lastF n l ∧ ∀ t ∈ l, t.last ≤ lastF n l
 | [], n => ⟨Nat.le_refl _, by simp⟩
 | t :: r, n => by
  obtain ⟨h1, h2⟩ := lastF_ge r (max n t.last)
  rw [lastF]
  refine ⟨by omega, fun x hx => ?_⟩
  rcases List.mem_cons.1 hx with rfl | hx
  ·omega
  ·exact h2 x hx
theorem last_ge {p : Yh} {t : TxP} (h : t ∈ p.txns) : t.last ≤ YH p := (lastF_ge p.txns 0).2 t h
def xM (p : Yh) (t : TxP) : Rc := ⟨4, YH p + 1, t.num, t.last, t.undo, [], [⟨4, ⟨0, 0, 0, []⟩, 0⟩], 0, [], []⟩
def uM (p : Yh) (t : TxP) : Rc := ⟨5, YH p + 1 + 1, t.num, YH p + 1, t.undo, [], [], 0, [], []⟩
structure LedL (p : Yh) (t : TxP) : Prop where
 xe : Xa (ZT p t.num) (xM p t) = 0
 ue : Xa (YD (ZT p t.num) (xM p t)) (uM p t) = 0
 own : ∃ o, Yq (YD (YD (ZT p t.num) (xM p t)) (uM p t)) t.num = some o ∧ o.undo = t.undo ∧ o.marks.length = t.marks.length + 1 ∧ o.stack.length = t.stack.length
 res : resN (YD (YD (ZT p t.num) (xM p t)) (uM p t)) = resN (ZT p t.num)
 ok : Xq (YD (YD (ZT p t.num) (xM p t)) (uM p t)) = true
theorem led_law {p : Yh} (h : RosG p) {t : TxP} (ht : t ∈ p.txns) (he : markE p t.num = 0) (hu : t.undo < t.last) (hl : YH p ≤ 1099511627774) : LedL p t := by
 have hM := mark_law h ht he
 obtain ⟨h1, h2, hg⟩ := h.tx t ht
 have hn2 := h.n2
 have hlast := last_ge ht
 have hf1 := hg.f1
 have hfu := hg.fu
 have hxk : Yp (xM p t) = true := by
  have a1 : decide (1 ≤ (xM p t).kind ∧ (xM p t).kind ≤ 9) = true := decide_eq_true (show (1 : Int) ≤ 4 ∧ (4 : Int) ≤ 9 by omega)
  have a2 : headOk (xM p t) = true := decide_eq_true (show 1 ≤ YH p + 1 ∧ YH p + 1 ≤ 1099511627776 ∧ t.last < YH p + 1 ∧ 0 ≤ t.num ∧ t.num ≤ 1073741824 ∧ ((4 : Int) = 9 ↔ t.num = 0) ∧ (((4 : Int) = 9 ∨ (4 : Int) = 1) ↔ t.last = 0) by omega)
  have a3 : askOk (xM p t) = true := by
   unfold askOk
   rw [if_neg (show ¬ (xM p t).kind = 2 from (by decide : ¬ (4 : Int) = 2)), if_neg (show ¬ (xM p t).kind = 3 from (by decide : ¬ (4 : Int) = 3)), if_pos (show (xM p t).kind = 4 from rfl)]
   rw [show decide ((xM p t).next < (xM p t).prev) = true from decide_eq_true hu]; rfl
  have a4 : bareOk (xM p t) = true := decide_eq_true ⟨.inr (.inr (.inl rfl)), .inl rfl, .inr rfl, .inl ⟨rfl, rfl, rfl⟩⟩
  unfold Yp
  rw [a1, a2, a3, a4]; rfl
 have huk : Yp (uM p t) = true := by
  have a1 : decide (1 ≤ (uM p t).kind ∧ (uM p t).kind ≤ 9) = true := decide_eq_true (show (1 : Int) ≤ 5 ∧ (5 : Int) ≤ 9 by omega)
  have a2 : headOk (uM p t) = true := decide_eq_true (show 1 ≤ YH p + 1 + 1 ∧ YH p + 1 + 1 ≤ 1099511627776 ∧ YH p + 1 < YH p + 1 + 1 ∧ 0 ≤ t.num ∧ t.num ≤ 1073741824 ∧ ((5 : Int) = 9 ↔ t.num = 0) ∧ (((5 : Int) = 9 ∨ (5 : Int) = 1) ↔ YH p + 1 = 0) by omega)
  have a3 : askOk (uM p t) = true := by
   unfold askOk
   rw [if_neg (show ¬ (uM p t).kind = 2 from (by decide : ¬ (5 : Int) = 2)), if_neg (show ¬ (uM p t).kind = 3 from (by decide : ¬ (5 : Int) = 3)), if_neg (show ¬ (uM p t).kind = 4 from (by decide : ¬ (5 : Int) = 4)), if_pos (show (uM p t).kind = 5 from rfl)]
   rw [show decide ((uM p t).next < (uM p t).lsn) = true from decide_eq_true (show t.undo < YH p + 1 + 1 by omega)]; rfl
  have a4 : bareOk (uM p t) = true := decide_eq_true ⟨.inr (.inr (.inr rfl)), .inl rfl, .inl rfl, .inl ⟨rfl, rfl, rfl⟩⟩
  unfold Yp
  rw [a1, a2, a3, a4]; rfl
 obtain ⟨i, hi, hti⟩ := List.mem_iff_getElem.1 ht
 have ha := hM.a
 have hga := hM.g
 have hs := hM.live
 have hia : i < (ZT p t.num).txns.length := by rw [ha, putT_len]; exact hi
 have hnum : ∀ q : TxP, q.num = t.num → q.num = ((ZT p t.num).txns[i]).num := fun q e => by
  have : (ZT p t.num).txns[i] = Xk t := by
   have e2 := putT_set h hi (t := Xk t) (by rw [hti]; rfl)
   simp only [ha, e2]
   simp
  rw [this, e]; rfl
 have hfa : Yq (ZT p t.num) t.num = some (Xk t) := by
  rw [ha]; exact find_set h hi (t := Xk t) (by rw [hti]; rfl)
 obtain ⟨t1, ht1⟩ : ∃ t1, Xj (Xk t) (xM p t) = t1 := ⟨_, rfl⟩
 have hstk : t.stack.filter (fun s => decide (s.lsn ≤ t.undo)) = t.stack := List.filter_eq_self.2 (fun s hs => decide_eq_true (hg.st s hs).2.1)
 have hmrk : (t.marks ++ [t.undo]).filter (fun m => decide (m ≤ t.undo)) = t.marks ++ [t.undo] := List.filter_eq_self.2 (fun m hm => decide_eq_true (by
  rcases List.mem_append.1 hm with hm | hm
  ·exact (hg.mb m hm).2
  ·rw [List.mem_singleton.1 hm]; exact Nat.le_refl _))
 have ht1e : t1 = { t with last := YH p + 1, undo := YH p + 1, stack := t.stack ++ [XL (xM p t)], marks := t.marks ++ [t.undo] } := by
  rw [← ht1]
  unfold Xj
  rw [if_neg (show ¬ (xM p t).kind = 2 by simp [xM]), if_neg (show ¬ ((xM p t).kind = 3 ∨ (xM p t).kind = 5) by simp [xM]), if_pos (show (xM p t).kind = 4 from rfl)]
  show (⟨t.num, t.state, t.first, YH p + 1, YH p + 1, t.stack.filter (fun s => decide (s.lsn ≤ t.undo)) ++ [XL (xM p t)], (t.marks ++ [t.undo]).filter (fun m => decide (m ≤ t.undo))⟩ : TxP) = _
  rw [hstk, hmrk]
 have hmay : mayT (Xk t) (xM p t) = true := by
  unfold mayT
  rw [if_pos (show (xM p t).kind = 3 ∨ (xM p t).kind = 4 from .inr rfl)]
  unfold Wa Xl
  simp only [Bool.and_eq_true, decide_eq_true_eq]
  exact ⟨hs, hfu, Nat.le_refl _⟩
 have htx : XB (ZT p t.num) (xM p t) = 0 := by
  unfold XB
  rw [if_neg (show ¬ (xM p t).kind = 9 by simp [xM]), if_neg (show ¬ (xM p t).kind = 1 by simp [xM]), show (xM p t).txn = t.num from rfl, hfa]
  unfold ownE
  dsimp only
  rw [if_neg (show ¬ (xM p t).prev ≠ (Xk t).last from fun c => c rfl), if_neg (show ¬ (xM p t).kind = 8 by simp [xM]), hmay]; rfl
 have hxe : Xa (ZT p t.num) (xM p t) = 0 := by unfold Xa; rw [Yw.2 hga, hxk]; exact htx
 have hc : YD (ZT p t.num) (xM p t) = XP (ZT p t.num) t1 := by
  unfold YD
  rw [if_pos hxe]
  unfold Yv
  rw [if_neg (show ¬ (xM p t).kind = 9 by simp [xM]), if_neg (show ¬ (xM p t).kind = 1 by simp [xM]), show (xM p t).txn = t.num from rfl, hfa]
  unfold ownP
  dsimp only
  rw [if_neg (show ¬ (xM p t).kind = 8 by simp [xM]), ht1]
 have hgc := takeP_ok hxe
 have hn1 : t1.num = t.num := by rw [ht1e]
 have hfc : Yq (YD (ZT p t.num) (xM p t)) t.num = some t1 := by
  have e := find_set hga hia (hnum t1 hn1); rw [hn1] at e; rw [hc]; exact e
 obtain ⟨t2, ht2⟩ : ∃ t2, Xj t1 (uM p t) = t2 := ⟨_, rfl⟩
 have ht2e : t2 = { t with last := YH p + 1 + 1, marks := t.marks ++ [t.undo] } := by
  rw [← ht2]
  unfold Xj
  rw [if_neg (show ¬ (uM p t).kind = 2 by simp [uM]), if_pos (show (uM p t).kind = 3 ∨ (uM p t).kind = 5 from .inr rfl)]
  rw [ht1e]
  have e0 : [XL (xM p t)].filter (fun s => decide (s.lsn ≤ t.undo)) = [] := by
   rw [List.filter_cons, if_neg (show ¬ (decide ((XL (xM p t)).lsn ≤ t.undo) = true) from fun c => by have h9 : YH p + 1 ≤ t.undo := of_decide_eq_true c; omega)]; rfl
  show (⟨t.num, t.state, t.first, YH p + 1 + 1, t.undo, (t.stack ++ [XL (xM p t)]).filter (fun s => decide (s.lsn ≤ t.undo)), (t.marks ++ [t.undo]).filter (fun m => decide (m ≤ t.undo))⟩ : TxP) = _
  rw [List.filter_append, hstk, e0, List.append_nil, hmrk]
 have hmay2 : mayT t1 (uM p t) = true := by
  unfold mayT
  rw [if_neg (show ¬ ((uM p t).kind = 3 ∨ (uM p t).kind = 4) by simp [uM]), if_pos (show (uM p t).kind = 5 from rfl)]
  have a1 : decide (t1.state ≠ 3) = true := decide_eq_true (by rw [ht1e]; show t.state ≠ 3; omega)
  have a2 : Xl t1 (uM p t) = true := decide_eq_true (by rw [ht1e]; exact ⟨hfu, show t.undo ≤ YH p + 1 by omega⟩)
  have a3 : decide ((uM p t).next < t1.undo) = true := decide_eq_true (by rw [ht1e]; show t.undo < YH p + 1; omega)
  rw [a1, a2, a3]; rfl
 have hue : Xa (YD (ZT p t.num) (xM p t)) (uM p t) = 0 := by
  unfold Xa
  rw [Yw.2 hgc, huk, if_pos rfl, if_pos rfl]
  unfold XB
  rw [if_neg (show ¬ (uM p t).kind = 9 by simp [uM]), if_neg (show ¬ (uM p t).kind = 1 by simp [uM]), show (uM p t).txn = t.num from rfl, hfc]
  unfold ownE
  dsimp only
  rw [if_neg (show ¬ (uM p t).prev ≠ t1.last from fun c => c (by rw [ht1e]; rfl)), if_neg (show ¬ (uM p t).kind = 8 by simp [uM]), hmay2]; rfl
 have hd : YD (YD (ZT p t.num) (xM p t)) (uM p t) = XP (ZT p t.num) t2 := by
  have hn2' : t2.num = t.num := by rw [ht2e]
  unfold YD
  rw [show (if Xa (if Xa (ZT p t.num) (xM p t) = 0 then Yv (ZT p t.num) (xM p t) else ⟨0, []⟩) (uM p t) = 0 then Yv (if Xa (ZT p t.num) (xM p t) = 0 then Yv (ZT p t.num) (xM p t) else ⟨0, []⟩) (uM p t) else ⟨0, []⟩) = Yv (YD (ZT p t.num) (xM p t)) (uM p t) from if_pos hue]
  unfold Yv
  rw [if_neg (show ¬ (uM p t).kind = 9 by simp [uM]), if_neg (show ¬ (uM p t).kind = 1 by simp [uM]), show (uM p t).txn = t.num from rfl, hfc]
  unfold ownP
  dsimp only
  rw [if_neg (show ¬ (uM p t).kind = 8 by simp [uM]), ht2, hc, put_put _ (hn1.trans hn2'.symm)]
 have hn2' : t2.num = t.num := by rw [ht2e]
 refine ⟨hxe, hue, ⟨t2, ?_, by rw [ht2e], by rw [ht2e]; simp, by rw [ht2e]⟩, ?_, Yw.2 (takeP_ok hue)⟩
 ·have e := find_set hga hia (hnum t2 hn2'); rw [hn2'] at e; rw [hd]; exact e
 ·rw [hd, ha, put_put p (show (Xk t).num = t2.num from hn2'.symm)]
  refine resPutC hn2' ?_
  rw [ht2e]; rfl
end Go.Proofs.E
namespace Go.Proofs.E
open Go Go.RowKit
set_option linter.unusedVariables false
set_option linter.unusedSimpArgs false
set_option linter.unusedSectionVars false
set_option maxRecDepth 8000
structure OpW (ρ : Hp) (o : OpD) : Prop where
 r : RcW ρ o.rv o.rc
 n : i64in o.n
theorem OpW.mono {ρ ρ' : Hp} {o : OpD} (h : OpW ρ o) (hle : ρ.le ρ') : OpW ρ' o := ⟨h.r.mono hle, h.n⟩
section
variable {H : Type} {enc : TypeId × Value → H} {w : World}
theorem opnS_op : OpnS enc Tryz.prog w 36 (fun cs (x : OpD) => cs = opV x ∧ OpW (hpOf w) x) := fun fuel cs x h hw => by
 obtain ⟨hl, hf⟩ := Xb Tryz.underlying36 h hw
 have hl : cs.length = 15 := by rw [hl]; kernel_rfl
 obtain ⟨c0, c1, c2, c3, c4, c5, c6, c7, c8, c9, d0, d1, d2, d3, d4, rfl⟩ : ∃ c0 c1 c2 c3 c4 c5 c6 c7 c8 c9 d0 d1 d2 d3 d4, cs = [c0, c1, c2, c3, c4, c5, c6, c7, c8, c9, d0, d1, d2, d3, d4] := by
  match cs, hl with
  | [c0, c1, c2, c3, c4, c5, c6, c7, c8, c9, d0, d1, d2, d3, d4], _ => exact ⟨c0, c1, c2, c3, c4, c5, c6, c7, c8, c9, d0, d1, d2, d3, d4, rfl⟩
 obtain ⟨k, h0, _⟩ := ZL h hw Tryz.underlying36 0 0 1 rfl rfl rfl (by kernel_rfl) (YF Tryz.underlying3).sized
 obtain ⟨m, h1, _⟩ := ZL h hw Tryz.underlying36 1 1 1 rfl rfl rfl (by kernel_rfl) (YF Tryz.underlying3).sized
 obtain ⟨n, h2, hn⟩ := ZL h hw Tryz.underlying36 2 2 1 rfl rfl rfl (by kernel_rfl) (YF Tryz.underlying3).sized
 obtain ⟨a, h3, _⟩ := ZL h hw Tryz.underlying36 3 3 1 rfl rfl rfl (by kernel_rfl) (YF Tryz.underlying3).sized
 obtain ⟨b, h4⟩ := ZL h hw Tryz.underlying36 4 4 1 rfl rfl rfl (by kernel_rfl) (opn_bool Tryz.underlying4).sized
 obtain ⟨⟨rv, rc⟩, h5, w5⟩ := ZL h hw Tryz.underlying36 5 5 10 rfl rfl rfl (by kernel_rfl) opnS_rec
 simp only [RB, List.drop_zero, List.drop_succ_cons, List.take_succ_cons, List.take_zero, List.cons.injEq, and_true] at h0 h1 h2 h3 h4 h5
 obtain ⟨g0, g1, g2, g3, g4, g5, g6, g7, g8, g9⟩ := h5
 subst h0; subst h1; subst h2; subst h3; subst h4; subst g0; subst g1; subst g2; subst g3; subst g4; subst g5; subst g6; subst g7; subst g8; subst g9
 exact ⟨⟨k, m, n, a, b, rv, rc⟩, rfl, w5, hn⟩
end
end Go.Proofs.E
