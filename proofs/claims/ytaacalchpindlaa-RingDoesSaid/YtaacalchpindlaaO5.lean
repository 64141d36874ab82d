/- The law RingDoes. Part 5 of 17. -/
import Derived.Test.YtaacalchpindlaaO4
namespace Go.Proofs.E
open Go
set_option linter.unusedVariables false
set_option linter.unusedSimpArgs false
set_option linter.unusedSectionVars false
set_option maxRecDepth 4000
set_option maxHeartbeats 1000000
attribute [local irreducible] Yl TL TC TE Spec Xt R1 Hp.le EnvLe TS TR YS Zo
theorem filter_range_pre (p : Nat → Bool) : ∀ (n : Nat) (pre : List Nat) (y : Nat), (pre ++ [y]) <+: (List.range n).filter p → pre = (List.range y).filter p ∧ p y = true ∧ y < n
 | 0, pre, y, h => by simp at h
 | n + 1, pre, y, h => by
  rw [List.range_succ, List.filter_append] at h
  cases hp : p n with
  | false =>
   have h' : (pre ++ [y]) <+: (List.range n).filter p := by simpa [hp] using h
   obtain ⟨h1, h2, h3⟩ := filter_range_pre p n pre y h'
   exact ⟨h1, h2, by omega⟩
  | true =>
   have h' : (pre ++ [y]) <+: (List.range n).filter p ++ [n] := by simpa [hp] using h
   by_cases hl : (pre ++ [y]).length ≤ ((List.range n).filter p).length
   ·have h2 : (pre ++ [y]) <+: (List.range n).filter p := List.prefix_of_prefix_length_le h' (List.prefix_append _ _) hl
    obtain ⟨h1, h2, h3⟩ := filter_range_pre p n pre y h2
    exact ⟨h1, h2, by omega⟩
   ·have hlen := h'.length_le
    have he : pre ++ [y] = (List.range n).filter p ++ [n] := h'.eq_of_length (by simp at hl hlen ⊢; omega)
    obtain ⟨h1, h2⟩ := List.append_inj' he rfl
    simp only [List.cons.injEq, and_true] at h2
    subst h2
    exact ⟨h1, hp, by omega⟩
def setAfter (keep : Nat → Bool) (s : Yz) (m : Nat) : Yz := s.mapIdx fun i p => if isP s i && decide ((Ys s i).length < m) && keep (Ys s i).length then (p.2.getD p.1, p.2) else p
def settled (keep : Nat → Bool) (s : Yz) : Yz := (setAfter keep s (pend s).length).map fun p => (p.1, none)
theorem Xe {keep s m} : (setAfter keep s m).length = s.length := by simp [setAfter]
theorem Yb {keep s} : (settled keep s).length = s.length := by simp [settled, Xe]
theorem setAfter_zero {keep : Nat → Bool} {s : Yz} : setAfter keep s 0 = s := by
 unfold setAfter
 apply List.ext_getElem (by simp)
 intro i h1 h2
 simp
theorem heldC_settled {keep s} : Yo (settled keep s) = Yo (setAfter keep s (pend s).length) := by simp [Yo, settled, Function.comp_def]
theorem pendTo_lt {s : Yz} {i j : Nat} (h : i < j) (hp : isP s i = true) : (Ys s i).length < (Ys s j).length := by
 have := (pendTo_pre (s := s) (k := i + 1) (m := j) (by omega)).length_le
 rw [pendTo_succ_t hp] at this
 simp at this; omega
theorem setAfter_succ {keep : Nat → Bool} {s : Yz} {y : Nat} {h c : Blk} (hy : s[y]? = some (h, some c)) :
  setAfter keep s ((Ys s y).length + 1) = if keep (Ys s y).length then (setAfter keep s (Ys s y).length).set y (c, some c) else setAfter keep s (Ys s y).length := by
 have hlt : y < s.length := (List.getElem?_eq_some_iff.1 hy).1
 have hyv : s[y] = (h, some c) := (List.getElem?_eq_some_iff.1 hy).2
 have hpy : isP s y = true := by simp [isP, hy]
 have key : ∀ i, i < s.length → i ≠ y → isP s i = true → ((Ys s i).length < (Ys s y).length + 1 ↔ (Ys s i).length < (Ys s y).length) := by
  intro i hi hne hp
  rcases Nat.lt_trichotomy i y with h1 | h1 | h1
  ·have := pendTo_lt h1 hp; omega
  ·exact absurd h1 hne
  ·have := pendTo_lt h1 hpy; omega
 apply List.ext_getElem
 ·split <;> simp [setAfter]
 ·intro i h1 h2
  have hi : i < s.length := by simpa [setAfter] using h1
  by_cases e : i = y
  ·subst e
   split
   ·rename_i hk
    simp [setAfter, hpy, hk, hyv]
   ·rename_i hk
    simp [setAfter, hpy, hk]
  ·have hne : y ≠ i := fun h => e h.symm
   have : ∀ (q : Yz) (hq : i < q.length) (v : Blk × Option Blk) (hq2 : i < (q.set y v).length), (q.set y v)[i] = q[i] := fun q hq v hq2 => by rw [List.getElem_set_ne hne]
   cases hp : isP s i with
   | false => split <;> simp [setAfter, hp, List.getElem_set_ne hne]
   | true =>
    have hk := key i hi e hp
    split <;> simp [setAfter, hp, List.getElem_set_ne hne, hk]
theorem SecsOk.setAfter {keep : Nat → Bool} {s : Yz} {m : Nat} (h : SecsOk s) : SecsOk (setAfter keep s m) := by
 have hm : ∀ p ∈ E.setAfter keep s m, ∃ q ∈ s, p.2 = q.2 ∧ (p.1 = q.1 ∨ q.2 = some p.1) := by
  intro p hp
  obtain ⟨i, hi, rfl⟩ := List.mem_iff_getElem.1 hp
  have hi' : i < s.length := by simpa [E.setAfter] using hi
  refine ⟨s[i], List.getElem_mem hi', ?_⟩
  simp only [E.setAfter, List.getElem_mapIdx]
  split
  ·refine ⟨rfl, ?_⟩
   cases hc : s[i].2 with
   | none => exact .inl rfl
   | some c => exact .inr rfl
  ·exact ⟨rfl, .inl rfl⟩
 refine ⟨by rw [Xe]; exact h.len, by rw [Xe]; exact h.pos, fun p hp => ?_, fun p hp c hc => ?_⟩
 ·obtain ⟨q, hq, h1, h2 | h2⟩ := hm p hp
  ·rw [h2]; exact h.held q hq
  ·exact h.cached q hq _ h2
 ·obtain ⟨q, hq, h1, h2⟩ := hm p hp
  exact h.cached q hq c (by rw [← h1]; exact hc)
theorem SecsOk.settled {keep : Nat → Bool} {s : Yz} (h : SecsOk s) : SecsOk (settled keep s) := by
 have h1 := h.setAfter (keep := keep) (m := (pend s).length)
 refine ⟨by rw [Yb]; exact h.len, by rw [Yb]; exact h.pos, fun p hp => ?_, fun p hp c hc => ?_⟩
 ·obtain ⟨q, hq, rfl⟩ := List.mem_map.1 hp
  exact h1.held q hq
 ·obtain ⟨q, hq, rfl⟩ := List.mem_map.1 hp
  cases hc
theorem YD {keep s} : XA (settled keep s) := fun p hp => by
 obtain ⟨q, hq, rfl⟩ := List.mem_map.1 hp
 rfl
theorem settle_spec (ρ : Hp) (b : Nat) (hb : HB) (mb : Nat) (es : List MapEntry) (ck : Nat) (s : Yz) (ops armed failing : Int) (dead : Bool) (kf : Nat) (kc : List Value) (Xk : SH) (keep : Nat → Bool) [hkF : Fun Try.prog kf]
  (hK : ∀ nth, nth < 2048 → Spec Try.prog kf ([.int .i64 (nth : Nat)] ++ kc) ρ Xk (fun v ρ' L' => v = .bool (keep nth) ∧ ρ' = ρ ∧ L' = Xk)) (hs : SecsOk s) (hm : MapOk s es) :
  Spec Try.prog 32 [.pointer (some ⟨b, 0, none⟩), .func (.func kf) ⟨[]⟩ ⟨kc⟩] ρ ([[(b, dO hb mb s.length ops armed failing dead)], [(hb.b, .cells ⟨Yo s ++ hb.sp⟩ 48 (0, 0))], [(mb, .map ⟨es⟩ ck)]] ++ Xk)
   (fun v ρ' L' => v = .tuple ⟨[]⟩ ∧ ρ.le ρ' ∧ ∃ mb' ck', L' = [[(b, dO hb mb' s.length ops armed failing dead)], [(hb.b, .cells ⟨Yo (settled keep s) ++ hb.sp⟩ 48 (0, 0))], [(mb', .map ⟨[]⟩ ck')]] ++ Xk) := by
 rw [heldC_settled]
 have hpl := pend_length hs
 have hk := hm.keys
 refine Zd Try.func32 rfl rfl rfl fun u R => ?_
 simp only [Zw, List.cons_append, List.nil_append, dO]
 repeat' (first | (refine Zb (.func 57) ?_; refine qC rfl rfl (pending_spec _ _) ?_; rintro v ρ' L' hle ⟨bx, rfl, rfl, rfl⟩ <;> (try simp only [kM, kN, kO])) | (refine Zf ?_; first | (refine Ze ?_; refine qQ ?_) | refine Zk ?_) | refine Za ?_ | (refine Zg ?_; refine Zu ?_) | (refine Zh ?_; refine Zv ?_) | intro _)
 rename_i bd bk bn
 refine tc_rangeFunc (S := [[(bx, .cells ⟨[.pointer (some ⟨b, 0, none⟩)]⟩ 24 (0, 0))], [(b, dO hb mb s.length ops armed failing dead)], [(mb, .map ⟨es⟩ ck)]])
  (L0 := [[(bd, .cells ⟨[.pointer (some ⟨b, 0, none⟩)]⟩ 24 (0, 0))], [(bk, .cells ⟨[.func (.func kf) ⟨[]⟩ ⟨kc⟩]⟩ 74 (0, 0))], [(bn, .cells ⟨[.int .i64 (0 : Nat)]⟩ 3 (0, 0))], [(hb.b, .cells ⟨Yo (setAfter keep s 0) ++ hb.sp⟩ 48 (0, 0))]] ++ Xk) (R := R) (R0 := ?r0) rfl rfl (pending1_iter ρ' b hb mb bx s ops armed failing dead es ck hm hs) (Hp.le_refl _) (fun _ => rfl) rfl
  (fun pre ρ1 Lu => ρ1 = ρ' ∧ Lu = [[(bd, .cells ⟨[.pointer (some ⟨b, 0, none⟩)]⟩ 24 (0, 0))], [(bk, .cells ⟨[.func (.func kf) ⟨[]⟩ ⟨kc⟩]⟩ 74 (0, 0))], [(bn, .cells ⟨[.int .i64 (pre.length : Nat)]⟩ 3 (0, 0))], [(hb.b, .cells ⟨Yo (setAfter keep s pre.length) ++ hb.sp⟩ 48 (0, 0))]] ++ Xk) (fun _ _ _ => False) ?k1 ?k2 ⟨rfl, rfl⟩ ?round ?done ?stop
 case k1 => unfold dO; exact tk
 case k2 => rw [setAfter_zero]; exact tk
 case stop => rintro D0 c ρ' Lu _ hf; exact hf.elim
 case round =>
  rintro l tm r pre y ρ1 Lu u R' hpre hle' ⟨rfl, rfl⟩ hr hrec
  simp only [envP, natE, List.cons_append, List.nil_append]
  have hlen := hpre.length_le
  simp only [List.length_append, List.length_singleton] at hlen
  obtain ⟨hpe, hpy, hy⟩ := filter_range_pre _ _ _ _ hpre
  repeat' (first | (refine Zf ?_; first | (refine Ze ?_; refine qQ ?_) | refine Zk ?_) | refine Za ?_ | (refine Zg ?_; refine Zu ?_) | (refine Zh ?_; refine Zv ?_) | intro _)
  refine te_begin rfl hr (fun r' hbz hrec' => ?_)
  have hpl2 : (Ys s y).length = pre.length := by rw [hpe]; rfl
  obtain ⟨hd0, c, hsy⟩ : ∃ h c, s[y]? = some (h, some c) := by
   simp only [isP, Option.isSome_iff_exists] at hpy
   obtain ⟨c, hc⟩ := hpy
   rw [List.getElem?_eq_getElem hy] at hc ⊢
   simp only [Option.bind_some] at hc
   exact ⟨s[y].1, c, by rw [← hc]⟩
  have hsv : s[y] = (hd0, some c) := (List.getElem?_eq_some_iff.1 hsy).2
  have hat := hm.at hy
  rw [hsv] at hat
  simp only [Option.map_some] at hat
  have hc64 : c.length = 64 := hs.cached s[y] (List.getElem_mem hy) c (by rw [hsv])
  have hcl : (c.map ZE).length = 64 := by simpa using hc64
  have hone := ZM c
  have hsa := hs.setAfter (keep := keep) (m := pre.length)
  have hhl : (Yo (setAfter keep s pre.length) ++ hb.sp).length = s.length * 64 + hb.sp.length := by rw [heldC_length' _ hsa.held, Xe]
  have hnext := setAfter_succ (keep := keep) hsy
  rw [hpl2] at hnext
  have hst := stc_heldC' hb.sp (s := setAfter keep s pre.length) (i := y) (b := c) (some c) hsa.held hc64 (by rw [Xe]; exact hy)
  repeat' (first | (refine Zb (.tmp 9) ?_; refine qC rfl rfl (hK pre.length (by omega)) ?_; rintro v ρ' L' hle ⟨rfl, rfl, hx⟩ <;> (try simp only [kM, kN, kO, hx])) | (refine Zf ?_; first | (refine Ze ?_; refine qQ ?_) | refine Zk ?_) | refine Za ?_ | (refine Zg ?_; refine Zu ?_) | (refine Zh ?_; refine Zv ?_) | intro _)
  cases hkp : keep pre.length with
  | false =>
   rw [hkp] at hnext
   simp only [Bool.false_eq_true, if_false] at hnext
   repeat' (first | (refine Zf ?_; first | (refine Ze ?_; refine qQ ?_) | refine Zk ?_) | refine Za ?_ | (refine Zg ?_; refine Zu ?_) | (refine Zh ?_; refine Zv ?_) | intro _)
   refine te_front [(l, .loop r')] ?_
   refine te_next (Lu := [[(bd, .cells ⟨[.pointer (some ⟨b, 0, none⟩)]⟩ 24 (0, 0))], [(bk, .cells ⟨[.func (.func kf) ⟨[]⟩ ⟨kc⟩]⟩ 74 (0, 0))], [(bn, .cells ⟨[.int .i64 (pre.length + 1 : Nat)]⟩ 3 (0, 0))], [(hb.b, .cells ⟨Yo (setAfter keep s pre.length) ++ hb.sp⟩ 48 (0, 0))]] ++ Xk) rfl (Hp.le_refl _) ⟨hrec'.tmps.trans hrec.tmps, hrec'.params.trans hrec.params, hrec'.assign.trans hrec.assign, hrec'.body.trans hrec.body⟩ tk tk inferInstance ?_
   refine ⟨rfl, ?_⟩
   simp [hnext]
  | true =>
   rw [hkp] at hnext
   simp only [if_true] at hnext
   rw [← hnext] at hst
   repeat' (first | (refine Zf ?_; first | (refine Ze ?_; refine qQ ?_) | refine Zk ?_) | refine Za ?_ | (refine Zg ?_; refine Zu ?_) | (refine Zh ?_; refine Zv ?_) | intro _)
   refine tc_draw 12 (by decide +kernel) (by decide +kernel) ?_
   repeat' (first | (refine jMv ?_; refine sMv ?_) | (refine jLd ?_; refine sLd ?_) | (refine jFa ?_; refine sFa ?_) | (refine jNc ?_; refine sNc ?_) | (refine jIa ?_; refine sIa ?_) | (refine jLu ?_; refine sLu ?_) | (refine j_gd ?_; first | refine sWant ?_ | refine sSkip ?_ | refine sSkipU ?_))
   all_goals refine ts_nil ?_
   repeat' (first | (refine Zf ?_; first | (refine Ze ?_; refine qQ ?_) | refine Zk ?_) | refine Za ?_ | (refine Zg ?_; refine Zu ?_) | (refine Zh ?_; refine Zv ?_) | intro _)
   rw [Nat.zero_add, hst]
   refine te_front [(l, .loop r')] ?_
   refine te_next (Lu := [[(bd, .cells ⟨[.pointer (some ⟨b, 0, none⟩)]⟩ 24 (0, 0))], [(bk, .cells ⟨[.func (.func kf) ⟨[]⟩ ⟨kc⟩]⟩ 74 (0, 0))], [(bn, .cells ⟨[.int .i64 (pre.length + 1 : Nat)]⟩ 3 (0, 0))], [(hb.b, .cells ⟨Yo (setAfter keep s (pre.length + 1)) ++ hb.sp⟩ 48 (0, 0))]] ++ Xk) rfl (Hp.le_refl _) ⟨hrec'.tmps.trans hrec.tmps, hrec'.params.trans hrec.params, hrec'.assign.trans hrec.assign, hrec'.body.trans hrec.body⟩ tk tk inferInstance ?_
   refine ⟨rfl, ?_⟩
   simp
 case done =>
  rintro D0 ρ1 Lu hle' ⟨rfl, rfl⟩
  simp only [List.cons_append, List.nil_append, dO]
  repeat' (first | (refine Zf ?_; first | (refine Ze ?_; refine qQ ?_) | refine Zk ?_) | refine Za ?_ | (refine Zg ?_; refine Zu ?_) | (refine Zh ?_; refine Zv ?_) | intro _)
  exact te_end_d rfl rfl rfl inferInstance (res0 rfl) (Hp.le_refl _) tk (by infer_instance) ⟨rfl, Hp.le_refl _, _, _, rfl⟩
theorem sync11 (ρ : Hp) (nth : Nat) : Spec Try.prog 77 [.int .i64 (nth : Nat)] ρ [] (fun v ρ' L' => v = .bool true ∧ ρ' = ρ ∧ L' = []) := by
 refine Zd Try.func77 rfl rfl rfl fun u R => ?_
 simp only [Zw, List.cons_append, List.nil_append]
 repeat' (first | (refine Zf ?_; first | (refine Ze ?_; refine qQ ?_) | refine Zk ?_) | refine Za ?_ | (refine Zg ?_; refine Zu ?_) | (refine Zh ?_; refine Zv ?_) | intro _)
 exact qE ⟨rfl, rfl, rfl⟩
theorem sync2 (ρ : Hp) (X : SH) : Spec Try.prog 78 [] ρ X (fun v ρ' L' => v = .tuple ⟨[]⟩ ∧ ρ' = ρ ∧ L' = X) := by
 refine Zd Try.func78 rfl rfl rfl fun u R => ?_
 simp only [Zw, List.cons_append, List.nil_append]
 repeat' (first | (refine Zf ?_; first | (refine Ze ?_; refine qQ ?_) | refine Zk ?_) | refine Za ?_ | (refine Zg ?_; refine Zu ?_) | (refine Zh ?_; refine Zv ?_) | intro _)
 exact te_end rfl rfl rfl (res0 rfl) (Hp.le_refl _) take_app' (by infer_instance) ⟨rfl, rfl, rfl⟩
theorem sync1 (ρ : Hp) (b : Nat) (hb : HB) (mb bx : Nat) (es : List MapEntry) (ck : Nat) (s : Yz) (ops armed failing : Int) (dead : Bool) (hs : SecsOk s) (hm : MapOk s es) :
  Spec Try.prog 76 [.pointer (some ⟨bx, 0, none⟩)] ρ ([(b, dO hb mb s.length ops armed failing dead)] :: [[(hb.b, .cells ⟨Yo s ++ hb.sp⟩ 48 (0, 0))], [(mb, .map ⟨es⟩ ck)], [(bx, .cells ⟨[.pointer (some ⟨b, 0, none⟩)]⟩ 24 (0, 0))]])
   (fun v ρ' L' => v = .tuple ⟨[]⟩ ∧ ρ.le ρ' ∧ ∃ mb' ck', L' = [[(b, dO hb mb' s.length ops armed failing dead)], [(hb.b, .cells ⟨Yo (settled (fun _ => true) s) ++ hb.sp⟩ 48 (0, 0))], [(mb', .map ⟨[]⟩ ck')]]) := by
 refine Zd Try.func76 rfl rfl rfl fun u R => ?_
 simp only [Zw, List.cons_append, List.nil_append]
 repeat' (first | (refine Zb (.func 32) ?_; refine qC rfl rfl (settle_spec _ _ _ _ _ _ _ _ _ _ _ 77 [] [] (fun _ => true) (fun nth _ => sync11 _ nth) hs hm) ?_; rintro v ρ' L' hle ⟨rfl, hle2, mb', ck', rfl⟩ <;> (try simp only [kM, kN, kO])) | (refine Zf ?_; first | (refine Ze ?_; refine qQ ?_) | refine Zk ?_) | refine Za ?_ | (refine Zg ?_; refine Zu ?_) | (refine Zh ?_; refine Zv ?_) | intro _)
 exact te_end rfl rfl rfl (res0 rfl) hle2 tk (by infer_instance) ⟨rfl, hle2, mb', ck', rfl⟩
def DS.sync (D : DS) : DS × Int :=
 if D.dead then (D, 9)
 else if D.armed = 0 then ({ D.tick with dead := true }, 9)
 else if D.failing = 0 then (D.tick, 8)
 else ({ D.tick with armed := cnt D.armed, secs := settled (fun _ => true) D.secs }, 0)
theorem dsync_spec (ρ : Hp) (b : Nat) (hb : HB) (mb : Nat) (es : List MapEntry) (ck : Nat) (D : DS) (hD : D.Ok) (hm : MapOk D.secs es) :
  Spec Try.prog 60 [.pointer (some ⟨b, 0, none⟩)] ρ (Yw b hb mb es ck D)
   (fun v ρ' L' => v = .int .i64 D.sync.2 ∧ ρ.le ρ' ∧ ∃ mb' es' ck', MapOk D.sync.1.secs es' ∧ L' = Yw b hb mb' es' ck' D.sync.1) := by
 obtain ⟨s, ops, armed, failing, dead⟩ := D
 obtain ⟨hs, a1, a2, f1, f2⟩ := hD
 dsimp only at hs a1 a2 f1 f2 hm
 have hpos : (0 : Int) < s.length := by have := hs.pos; omega
 cases dead with
 | true =>
  have he : DS.sync ⟨s, ops, armed, failing, true⟩ = (⟨s, ops, armed, failing, true⟩, 9) := by simp [DS.sync]
  simp only [he]
  refine Zd Try.func60 rfl rfl rfl fun u R => ?_
  simp only [Zw, List.cons_append, List.nil_append, Yw]
  repeat' (first | (refine Zb (.func 34) ?_; refine qC rfl rfl (does_dead _ _ _ _ _ _ _ _ _ _ _) ?_; rintro v ρ' L' hle ⟨rfl, rfl, rfl⟩ <;> (try simp only [kM, kN, kO])) | (refine Zf ?_; first | (refine Ze ?_; refine qQ ?_) | refine Zk ?_) | refine Za ?_ | (refine Zg ?_; refine Zu ?_) | (refine Zh ?_; refine Zv ?_) | intro _)
  exact qE ⟨rfl, Hp.le_refl _, mb, es, ck, hm, rfl⟩
 | false =>
  by_cases ha : armed = 0
  ·subst ha
   have he : DS.sync ⟨s, ops, 0, failing, false⟩ = (⟨s, IntKind.i64.wrap (ops + 1), 0, cnt failing, true⟩, 9) := by simp [DS.sync, DS.tick]
   simp only [he]
   refine Zd Try.func60 rfl rfl rfl fun u R => ?_
   simp only [Zw, List.cons_append, List.nil_append, Yw]
   repeat' (first | (refine Zb (.func 34) ?_; refine qC rfl rfl (does_dies _ _ _ _ _ _ _ _ _ _ _ [] _ (Int.le_refl 0) hpos f1 f2 (sync2 _ _)) ?_; rintro v ρ' L' hle ⟨rfl, v0, h0, rfl, rfl⟩ <;> (try simp only [kM, kN, kO])) | (refine Zf ?_; first | (refine Ze ?_; refine qQ ?_) | refine Zk ?_) | refine Za ?_ | (refine Zg ?_; refine Zu ?_) | (refine Zh ?_; refine Zv ?_) | intro _)
   exact qE ⟨rfl, Hp.le_refl _, mb, es, ck, hm, rfl⟩
  ·by_cases hf : failing = 0
   ·subst hf
    have he : DS.sync ⟨s, ops, armed, 0, false⟩ = (⟨s, IntKind.i64.wrap (ops + 1), armed, -1, false⟩, 8) := by simp [DS.sync, DS.tick, ha, cnt]
    simp only [he]
    refine Zd Try.func60 rfl rfl rfl fun u R => ?_
    simp only [Zw, List.cons_append, List.nil_append, Yw]
    repeat' (first | (refine Zb (.func 34) ?_; refine qC rfl rfl (does_fail_w _ _ _ _ _ _ _ _ _ _ _ (Int.le_refl 0) hpos ha) ?_; rintro v ρ' L' hle ⟨rfl, rfl, rfl⟩ <;> (try simp only [kM, kN, kO])) | (refine Zf ?_; first | (refine Ze ?_; refine qQ ?_) | refine Zk ?_) | refine Za ?_ | (refine Zg ?_; refine Zu ?_) | (refine Zh ?_; refine Zv ?_) | intro _)
    exact qE ⟨rfl, Hp.le_refl _, mb, es, ck, hm, rfl⟩
   ·have he : DS.sync ⟨s, ops, armed, failing, false⟩ = (⟨settled (fun _ => true) s, IntKind.i64.wrap (ops + 1), cnt armed, cnt failing, false⟩, 0) := by simp [DS.sync, DS.tick, ha, hf]
    simp only [he]
    refine Zd Try.func60 rfl rfl rfl fun u R => ?_
    simp only [Zw, List.cons_append, List.nil_append, Yw, Yb]
    repeat' (first | (refine Zb (.func 34) ?_; refine qC rfl rfl (does_ok_w _ _ _ _ _ _ _ _ _ _ _ _ _ _ _ (Int.le_refl 0) hpos hf f1 f2 ha a1 a2 (sync1 _ _ _ _ _ es ck s _ _ _ _ hs hm)) ?_; rintro v ρ' L' hle ⟨rfl, v0, h0, hle2, mb', ck', rfl⟩ <;> (try simp only [kM, kN, kO])) | (refine Zf ?_; first | (refine Ze ?_; refine qQ ?_) | refine Zk ?_) | refine Za ?_ | (refine Zg ?_; refine Zu ?_) | (refine Zh ?_; refine Zv ?_) | intro _)
    exact te_end rfl rfl rfl (res1 rfl (r1_tmp rfl)) hle2 tk (by infer_instance) ⟨rfl, hle2, mb', [], ck', MapOk.empty YD, rfl⟩
def DS.crash (keep : Nat → Bool) (D : DS) : DS := ⟨settled keep D.secs, D.ops, -1, -1, false⟩
theorem crash_spec (ρ : Hp) (b : Nat) (hb : HB) (mb : Nat) (es : List MapEntry) (ck : Nat) (D : DS) (hD : D.Ok) (hm : MapOk D.secs es) (ka : Option Addr) (kn kp : Nat) (X : SH) (keep : Nat → Bool)
  (hK : ∀ bk nth, nth < 2048 → Spec Try.prog 33 [.int .i64 (nth : Nat), .pointer (some ⟨bk, 0, none⟩)] ρ ([(bk, .cells ⟨[.slice ka kn kp]⟩ 40 (0, 0))] :: X) (fun v ρ' L' => v = .bool (keep nth) ∧ ρ' = ρ ∧ L' = [(bk, .cells ⟨[.slice ka kn kp]⟩ 40 (0, 0))] :: X)) :
  Spec Try.prog 8 [.pointer (some ⟨b, 0, none⟩), .slice ka kn kp] ρ (Yw b hb mb es ck D ++ X)
   (fun v ρ' L' => v = .int .i64 0 ∧ ρ.le ρ' ∧ ∃ mb' ck', L' = Yw b hb mb' [] ck' (D.crash keep) ++ X) := by
 obtain ⟨s, ops, armed, failing, dead⟩ := D
 obtain ⟨hs, a1, a2, f1, f2⟩ := hD
 dsimp only at hs a1 a2 f1 f2 hm
 have hpos := hs.pos
 refine Zd Try.func8 rfl rfl rfl fun u R => ?_
 simp only [Zw, List.cons_append, List.nil_append, Yw, DS.crash, Yb]
 repeat' (first | (refine Zb (.func 32) ?_; refine tl_call rfl rfl (settle_spec _ _ _ _ _ _ _ _ _ _ _ 33 [.pointer (some ⟨_, 0, none⟩)] ([(_, .cells ⟨[.slice ka kn kp]⟩ 40 (0, 0))] :: X) keep (fun nth h => hK _ nth h) hs hm) tk rfl ?_; rintro v ρ' L' hle ⟨rfl, hle2, mb', ck', rfl⟩; simp only [List.cons_append, List.nil_append, dO]) | (refine Zf ?_; first | (refine Ze ?_; refine qQ ?_) | refine Zk ?_) | refine Za ?_ | (refine Zg ?_; refine Zu ?_) | (refine Zh ?_; refine Zv ?_) | intro _)
 exact te_end rfl rfl rfl (res1 rfl (r1_tmp rfl)) hle2 tk (by infer_instance) ⟨rfl, hle2, mb', ck', rfl⟩
def keepB (ks : List Bool) (nth : Nat) : Bool := ks[nth]?.getD false
theorem crash1_over (ρ : Hp) (bk nth : Nat) (ka : Option Addr) (kn kp : Nat) (X : SH) (h : kn ≤ nth) : Spec Try.prog 33 [.int .i64 (nth : Nat), .pointer (some ⟨bk, 0, none⟩)] ρ ([(bk, .cells ⟨[.slice ka kn kp]⟩ 40 (0, 0))] :: X) (fun v ρ' L' => v = .bool false ∧ ρ' = ρ ∧ L' = [(bk, .cells ⟨[.slice ka kn kp]⟩ 40 (0, 0))] :: X) := by
 refine Zd Try.func33 rfl rfl rfl fun u R => ?_
 simp only [Zw, List.cons_append, List.nil_append]
 repeat' (first | (refine Zf ?_; first | (refine Ze ?_; refine qQ ?_) | refine Zk ?_) | refine Za ?_ | (refine Zg ?_; refine Zu ?_) | (refine Zh ?_; refine Zv ?_) | intro _)
 exact te_end rfl rfl rfl (res1 rfl (r1_tmp rfl)) (Hp.le_refl _) (take_cons' YK take_app') (by infer_instance) ⟨rfl, rfl, rfl⟩
theorem crash1_imm (ρ : Hp) (bk nth kb o kn kp : Nat) (C : List Value) (T : TypeId) (fr : Nat × Nat) (f : Bool) (h : nth < kn) (hc : C[o + nth * 1]? = some (.bool f)) (hb : ρ kb = some (.cells ⟨C⟩ T fr)) : Spec Try.prog 33 [.int .i64 (nth : Nat), .pointer (some ⟨bk, 0, none⟩)] ρ [[(bk, .cells ⟨[.slice (some ⟨kb, o, none⟩) kn kp]⟩ 40 (0, 0))]] (fun v ρ' L' => v = .bool f ∧ ρ' = ρ ∧ L' = [[(bk, .cells ⟨[.slice (some ⟨kb, o, none⟩) kn kp]⟩ 40 (0, 0))]]) := by
 refine Zd Try.func33 rfl rfl rfl fun u R => ?_
 simp only [Zw, List.cons_append, List.nil_append]
 repeat' (first | (refine Zf ?_; first | (refine Ze ?_; refine qQ ?_) | refine Zk ?_) | refine Za ?_ | (refine Zg ?_; refine Zu ?_) | (refine Zh ?_; refine Zv ?_) | intro _)
 exact te_end rfl rfl rfl (res1 rfl (r1_tmp rfl)) (Hp.le_refl _) tk (by infer_instance) ⟨rfl, rfl, rfl⟩
def DS.arm (D : DS) (n : Int) : DS × Int := if D.dead then (D, 9) else ({ D with armed := max n (-1) }, 0)
def DS.fail (D : DS) (n : Int) : DS × Int := if D.dead then (D, 9) else ({ D with failing := max n (-1) }, 0)
theorem arm_spec (ρ : Hp) (b : Nat) (hb : HB) (mb n : Nat) (ops armed failing k : Int) (dead : Bool) : Spec Try.prog 17 [.pointer (some ⟨b, 0, none⟩), .int .i64 k] ρ [[(b, dO hb mb n ops armed failing dead)]]
  (fun v ρ' L' => v = .int .i64 (if dead then 9 else 0) ∧ ρ' = ρ ∧ L' = [[(b, dO hb mb n ops (if dead then armed else max k (-1)) failing dead)]]) := by
 cases dead with
 | true =>
  simp only [if_true]
  refine Zd Try.func17 rfl rfl rfl fun u R => ?_
  simp only [Zw, List.cons_append, List.nil_append]
  repeat' (first | (refine Zb (.func 48) ?_; refine qC rfl rfl (lives_dead _ _ _ _ _ _ _ _) ?_; rintro v ρ' L' hle ⟨rfl, rfl, rfl⟩ <;> (try simp only [kM, kN, kO])) | (refine Zf ?_; first | (refine Ze ?_; refine qQ ?_) | refine Zk ?_) | refine Za ?_ | (refine Zg ?_; refine Zu ?_) | (refine Zh ?_; refine Zv ?_) | intro _)
  exact qE ⟨rfl, rfl, rfl⟩
 | false =>
  simp only [Bool.false_eq_true, if_false]
  refine Zd Try.func17 rfl rfl rfl fun u R => ?_
  simp only [Zw, List.cons_append, List.nil_append]
  repeat' (first | (refine Zb (.func 48) ?_; refine qC rfl rfl (XN _ _ _ _ _ _ _ _) ?_; rintro v ρ' L' hle ⟨rfl, rfl, rfl⟩ <;> (try simp only [kM, kN, kO, dO])) | (refine Zf ?_; first | (refine Ze ?_; refine qQ ?_) | refine Zk ?_) | refine Za ?_ | (refine Zg ?_; refine Zu ?_) | (refine Zh ?_; refine Zv ?_) | intro _)
  exact qE ⟨rfl, rfl, rfl⟩
theorem fail_spec (ρ : Hp) (b : Nat) (hb : HB) (mb n : Nat) (ops armed failing k : Int) (dead : Bool) : Spec Try.prog 18 [.pointer (some ⟨b, 0, none⟩), .int .i64 k] ρ [[(b, dO hb mb n ops armed failing dead)]]
  (fun v ρ' L' => v = .int .i64 (if dead then 9 else 0) ∧ ρ' = ρ ∧ L' = [[(b, dO hb mb n ops armed (if dead then failing else max k (-1)) dead)]]) := by
 cases dead with
 | true =>
  simp only [if_true]
  refine Zd Try.func18 rfl rfl rfl fun u R => ?_
  simp only [Zw, List.cons_append, List.nil_append]
  repeat' (first | (refine Zb (.func 48) ?_; refine qC rfl rfl (lives_dead _ _ _ _ _ _ _ _) ?_; rintro v ρ' L' hle ⟨rfl, rfl, rfl⟩ <;> (try simp only [kM, kN, kO])) | (refine Zf ?_; first | (refine Ze ?_; refine qQ ?_) | refine Zk ?_) | refine Za ?_ | (refine Zg ?_; refine Zu ?_) | (refine Zh ?_; refine Zv ?_) | intro _)
  exact qE ⟨rfl, rfl, rfl⟩
 | false =>
  simp only [Bool.false_eq_true, if_false]
  refine Zd Try.func18 rfl rfl rfl fun u R => ?_
  simp only [Zw, List.cons_append, List.nil_append]
  repeat' (first | (refine Zb (.func 48) ?_; refine qC rfl rfl (XN _ _ _ _ _ _ _ _) ?_; rintro v ρ' L' hle ⟨rfl, rfl, rfl⟩ <;> (try simp only [kM, kN, kO, dO])) | (refine Zf ?_; first | (refine Ze ?_; refine qQ ?_) | refine Zk ?_) | refine Za ?_ | (refine Zg ?_; refine Zu ?_) | (refine Zh ?_; refine Zv ?_) | intro _)
  exact qE ⟨rfl, rfl, rfl⟩
theorem dead_spec (ρ : Hp) (b : Nat) (hb : HB) (mb n : Nat) (ops armed failing : Int) (dead : Bool) : Spec Try.prog 25 [.pointer (some ⟨b, 0, none⟩)] ρ [[(b, dO hb mb n ops armed failing dead)]]
  (fun v ρ' L' => v = .bool dead ∧ ρ' = ρ ∧ L' = [[(b, dO hb mb n ops armed failing dead)]]) := by
 refine Zd Try.func25 rfl rfl rfl fun u R => ?_
 simp only [Zw, List.cons_append, List.nil_append, dO]
 repeat' (first | (refine Zf ?_; first | (refine Ze ?_; refine qQ ?_) | refine Zk ?_) | refine Za ?_ | (refine Zg ?_; refine Zu ?_) | (refine Zh ?_; refine Zv ?_) | intro _)
 exact qE ⟨rfl, rfl, rfl⟩
theorem len_spec (ρ : Hp) (b : Nat) (hb : HB) (mb n : Nat) (ops armed failing : Int) (dead : Bool) : Spec Try.prog 36 [.pointer (some ⟨b, 0, none⟩)] ρ [[(b, dO hb mb n ops armed failing dead)]]
  (fun v ρ' L' => v = .int .i64 (n : Nat) ∧ ρ' = ρ ∧ L' = [[(b, dO hb mb n ops armed failing dead)]]) := by
 refine Zd Try.func36 rfl rfl rfl fun u R => ?_
 simp only [Zw, List.cons_append, List.nil_append, dO]
 repeat' (first | (refine Zf ?_; first | (refine Ze ?_; refine qQ ?_) | refine Zk ?_) | refine Za ?_ | (refine Zg ?_; refine Zu ?_) | (refine Zh ?_; refine Zv ?_) | intro _)
 exact qE ⟨rfl, rfl, rfl⟩
theorem ops_spec (ρ : Hp) (b : Nat) (hb : HB) (mb n : Nat) (ops armed failing : Int) (dead : Bool) : Spec Try.prog 24 [.pointer (some ⟨b, 0, none⟩)] ρ [[(b, dO hb mb n ops armed failing dead)]]
  (fun v ρ' L' => v = .int .i64 ops ∧ ρ' = ρ ∧ L' = [[(b, dO hb mb n ops armed failing dead)]]) := by
 refine Zd Try.func24 rfl rfl rfl fun u R => ?_
 simp only [Zw, List.cons_append, List.nil_append, dO]
 repeat' (first | (refine Zf ?_; first | (refine Ze ?_; refine qQ ?_) | refine Zk ?_) | refine Za ?_ | (refine Zg ?_; refine Zu ?_) | (refine Zh ?_; refine Zv ?_) | intro _)
 exact qE ⟨rfl, rfl, rfl⟩
def fresh (n : Nat) : Yz := List.replicate n (Yv, none)
def DS.new (n : Nat) : DS := ⟨fresh n, 0, -1, -1, false⟩
theorem fresh_ok {n : Nat} (h0 : 0 < n) (h1 : n ≤ 2048) : SecsOk (fresh n) := by
 refine ⟨by simpa [fresh] using h1, by simpa [fresh] using h0, fun p hp => ?_, fun p hp c hc => ?_⟩ <;> (obtain ⟨_, rfl⟩ := List.mem_replicate.1 hp)
 ·rfl
 ·cases hc
theorem fresh_empty {n : Nat} : XA (fresh n) := fun p hp => by obtain ⟨_, rfl⟩ := List.mem_replicate.1 hp; rfl
theorem madeCells_rep (x : Value) (m : Nat) : ∀ n, 0 < m → madeCells ⟨List.replicate m x⟩ n = ⟨List.replicate n x⟩ := by
 intro n hm
 apply Array.ext
 ·simp [madeCells]
 ·intro i h1 h2
  have h3 : i % m < m := Nat.mod_lt _ hm
  simp [madeCells, h3]
theorem heldC_fresh (n : Nat) : Yo (fresh n) = List.replicate (n * 64) (.int .u8 0) := by
 unfold Yo fresh
 rw [List.map_replicate]
 have : Yv.map ZE = List.replicate 64 (Value.int .u8 0) := by rfl
 rw [this, List.flatten_replicate_replicate]
theorem new_spec (ρ : Hp) (n : Nat) (h0 : 0 < n) (h1 : n ≤ 2048) : Spec Try.prog 5 [.int .i64 (n : Nat)] ρ [] (fun v ρ' L' => ρ' = ρ ∧ ∃ b hb mb ck, v = .tuple ⟨[.pointer (some ⟨b, 0, none⟩), .int .i64 0]⟩ ∧ L' = Yw b hb mb [] ck (DS.new n)) := by
 refine Zd Try.func5 rfl rfl rfl fun u R => ?_
 have hl : (DS.new n).secs.length = n := by simp [DS.new, fresh]
 simp only [Zw, List.cons_append, List.nil_append, Yw, hl]
 simp only [DS.new, heldC_fresh]
 repeat' (first | (refine Xc rfl rfl (by omega) (by omega) (by omega) (by omega) rfl (fun hbn => ?_); simp only [Value.cells, madeCells_rep _ 64 _ (by decide), Int.toNat_natCast]) | (refine Zf ?_; first | (refine Ze ?_; refine qQ ?_) | refine Zk ?_) | refine Za ?_ | (refine Zg ?_; refine Zu ?_) | (refine Zh ?_; refine Zv ?_) | intro _)
 rename_i bm bd
 refine qE (L' := [[(bd, .cells _ 61 (0, 0))], [(hbn, _)], [(bm, .map _ _)]]) ⟨rfl, bd, ⟨hbn, n, []⟩, bm, 0, rfl, ?_⟩
 simp only [List.append_nil]
 rfl
theorem Hp.le_get {ρ ρ' : Hp} (h : ρ.le ρ') {b : Nat} {o : Obj} (hb : ρ b = some o) : ρ' b = some o := YT h hb
def bb (f : Bool) : Value := .bool f
theorem bb_one (l : List Bool) : (l.map bb).all (·.oneCell') = true := by
 rw [List.all_eq_true]; intro v hv; obtain ⟨b, _, rfl⟩ := List.mem_map.1 hv; rfl
structure KeepIn (ρ : Hp) (ka : Option Addr) (kn kp : Nat) (ks : List Bool) : Prop where
 le : kn ≤ kp
 len : ks.length = kn
 big : kn ≤ 9223372036854775807
 out : kn = 0 ∨ ∃ kb off C T fr, ka = some ⟨kb, off, none⟩ ∧ ρ kb = some (.cells ⟨C⟩ T fr) ∧ (C.drop off).take kn = ks.map bb
theorem KeepIn.mono {ρ ρ' : Hp} {ka kn kp ks} (h : KeepIn ρ ka kn kp ks) (hle : ρ.le ρ') : KeepIn ρ' ka kn kp ks :=
 ⟨h.le, h.len, h.big, by
  rcases h.out with h0 | ⟨kb, off, C, T, fr, h1, h2, h3⟩
  ·exact .inl h0
  ·exact .inr ⟨kb, off, C, T, fr, h1, Hp.le_get hle h2, h3⟩⟩
theorem MapOk.arm {D : DS} {es n} (h : MapOk D.secs es) : MapOk (D.arm n).1.secs es := by unfold DS.arm; split <;> exact h
theorem MapOk.fail {D : DS} {es n} (h : MapOk D.secs es) : MapOk (D.fail n).1.secs es := by unfold DS.fail; split <;> exact h
theorem arm_disk (ρ : Hp) (b : Nat) (hb : HB) (mb : Nat) (es : List MapEntry) (ck : Nat) (D : DS) (k : Int) : Spec Try.prog 17 [.pointer (some ⟨b, 0, none⟩), .int .i64 k] ρ (Yw b hb mb es ck D) (fun v ρ' L' => v = .int .i64 (D.arm k).2 ∧ ρ' = ρ ∧ L' = Yw b hb mb es ck (D.arm k).1) := by
 refine ((arm_spec ρ b hb mb D.secs.length D.ops D.armed D.failing k D.dead).frame [[(hb.b, .cells ⟨Yo D.secs ++ hb.sp⟩ 48 (0, 0))], [(mb, .map ⟨es⟩ ck)]]).mono ?_
 rintro v ρ' L' _ ⟨L1, rfl, rfl, rfl, rfl⟩
 obtain ⟨s, o, a, f, d⟩ := D
 cases d <;> exact ⟨rfl, rfl, rfl⟩
theorem fail_disk (ρ : Hp) (b : Nat) (hb : HB) (mb : Nat) (es : List MapEntry) (ck : Nat) (D : DS) (k : Int) : Spec Try.prog 18 [.pointer (some ⟨b, 0, none⟩), .int .i64 k] ρ (Yw b hb mb es ck D) (fun v ρ' L' => v = .int .i64 (D.fail k).2 ∧ ρ' = ρ ∧ L' = Yw b hb mb es ck (D.fail k).1) := by
 refine ((fail_spec ρ b hb mb D.secs.length D.ops D.armed D.failing k D.dead).frame [[(hb.b, .cells ⟨Yo D.secs ++ hb.sp⟩ 48 (0, 0))], [(mb, .map ⟨es⟩ ck)]]).mono ?_
 rintro v ρ' L' _ ⟨L1, rfl, rfl, rfl, rfl⟩
 obtain ⟨s, o, a, f, d⟩ := D
 cases d <;> exact ⟨rfl, rfl, rfl⟩
theorem len_disk (ρ : Hp) (b : Nat) (hb : HB) (mb : Nat) (es : List MapEntry) (ck : Nat) (D : DS) : Spec Try.prog 36 [.pointer (some ⟨b, 0, none⟩)] ρ (Yw b hb mb es ck D) (fun v ρ' L' => v = .int .i64 (D.secs.length : Nat) ∧ ρ' = ρ ∧ L' = Yw b hb mb es ck D) := by
 refine ((len_spec ρ b hb mb D.secs.length D.ops D.armed D.failing D.dead).frame [[(hb.b, .cells ⟨Yo D.secs ++ hb.sp⟩ 48 (0, 0))], [(mb, .map ⟨es⟩ ck)]]).mono ?_
 rintro v ρ' L' _ ⟨L1, rfl, rfl, rfl, rfl⟩
 exact ⟨rfl, rfl, rfl⟩
theorem dead_disk (ρ : Hp) (b : Nat) (hb : HB) (mb : Nat) (es : List MapEntry) (ck : Nat) (D : DS) : Spec Try.prog 25 [.pointer (some ⟨b, 0, none⟩)] ρ (Yw b hb mb es ck D) (fun v ρ' L' => v = .bool D.dead ∧ ρ' = ρ ∧ L' = Yw b hb mb es ck D) := by
 refine ((dead_spec ρ b hb mb D.secs.length D.ops D.armed D.failing D.dead).frame [[(hb.b, .cells ⟨Yo D.secs ++ hb.sp⟩ 48 (0, 0))], [(mb, .map ⟨es⟩ ck)]]).mono ?_
 rintro v ρ' L' _ ⟨L1, rfl, rfl, rfl, rfl⟩
 exact ⟨rfl, rfl, rfl⟩
theorem Xn {D : DS} (hD : D.Ok) (i : Int) : (D.read i).2.1.length = 64 := by
 unfold DS.read
 split
 ·rfl
 ·split
  ·rfl
  ·split
   ·rfl
   ·rename_i h1 h2 h3
    have hlt : i.toNat < D.secs.length := by omega
    simp only [List.getElem?_eq_getElem hlt, Option.getD_some]
    unfold says1
    cases hc : D.secs[i.toNat].2 with
    | none => exact hD.secs.held _ (List.getElem_mem hlt)
    | some c => exact hD.secs.cached _ (List.getElem_mem hlt) c hc
theorem XF {D : DS} (i : Int) : (D.read i).1.secs = D.secs := by
 unfold DS.read
 split
 ·rfl
 ·split
  ·rfl
  ·split <;> rfl
theorem MapOk.read {D : DS} {es i} (h : MapOk D.secs es) : MapOk (D.read i).1.secs es := by rw [XF]; exact h
theorem new_okD {n : Nat} (h0 : 0 < n) (h1 : n ≤ 2048) : (DS.new n).Ok := ⟨fresh_ok h0 h1, by simp [DS.new], by simp [DS.new], by simp [DS.new], by simp [DS.new]⟩
theorem OwnS.pos {v n xs sp sz} (h : OwnS v n xs sp sz) (h0 : 0 < n) : ∃ b cap, v = .slice (some ⟨b, 0, none⟩) n cap := by
 rcases h.out with ⟨_, h2, _⟩ | ⟨b, cap, h1, _⟩
 ·omega
 ·exact ⟨b, cap, h1⟩
theorem OwnS.full {n : Nat} (b : Nat) (xs : List Value) (h : xs.length = n) : OwnS (.slice (some ⟨b, 0, none⟩) n n) n xs [] 1 := ⟨.inr ⟨b, n, rfl, by omega, by simp; omega, Nat.le_refl _⟩⟩
theorem cnt_lo {n : Int} : -1 ≤ cnt n := by unfold cnt; omega
theorem cnt_hi {n : Int} (h : n ≤ 9223372036854775807) : cnt n ≤ 9223372036854775807 := by unfold cnt; omega
theorem DS.Ok.tick {D : DS} (h : D.Ok) : D.tick.Ok := ⟨h.secs, h.a1, h.a2, cnt_lo, cnt_hi h.f2⟩
theorem DS.Ok.read {D : DS} {i : Int} (h : D.Ok) : (D.read i).1.Ok := by
 unfold DS.read
 split
 ·exact h
 ·split
  ·exact h
  ·split <;> exact h.tick
theorem DS.Ok.write {D : DS} {i : Int} {b : Blk} (h : D.Ok) (hb : b.length = 64) : (D.write i b).1.Ok := by
 unfold DS.write
 split
 ·exact h
 ·split
  ·exact h
  ·rename_i h1 h2
   have hi : i.toNat < D.secs.length := by omega
   split
   ·exact ⟨h.secs.putC hb hi, h.tick.a1, h.tick.a2, h.tick.f1, h.tick.f2⟩
   ·split
    ·exact h.tick
    ·exact ⟨h.secs.putC hb hi, cnt_lo, cnt_hi h.a2, h.tick.f1, h.tick.f2⟩
theorem DS.Ok.sync {D : DS} (h : D.Ok) : D.sync.1.Ok := by
 unfold DS.sync
 split
 ·exact h
 ·split
  ·exact ⟨h.secs, h.tick.a1, h.tick.a2, h.tick.f1, h.tick.f2⟩
  ·split
   ·exact h.tick
   ·exact ⟨h.secs.settled, cnt_lo, cnt_hi h.a2, h.tick.f1, h.tick.f2⟩
theorem DS.Ok.crash {D : DS} {keep} (h : D.Ok) : (D.crash keep).Ok := ⟨h.secs.settled, by simp [DS.crash], by simp [DS.crash], by simp [DS.crash], by simp [DS.crash]⟩
structure DS.Calm (D : DS) : Prop where
 dead : D.dead = false
 armed : D.armed = -1
 failing : D.failing = -1
theorem new_calm {n} : (DS.new n).Calm := ⟨rfl, rfl, rfl⟩
theorem DS.Calm.read {D : DS} {i : Int} (h : D.Calm) : (D.read i).1.Calm := by
 obtain ⟨s, o, a, f, d⟩ := D
 obtain ⟨h1, h2, h3⟩ := h
 simp only at h1 h2 h3
 subst h1; subst h2; subst h3
 unfold DS.read
 simp only [Bool.false_eq_true, if_false]
 split
 ·exact ⟨rfl, rfl, rfl⟩
 ·exact ⟨rfl, rfl, rfl⟩
theorem DS.Calm.write {D : DS} {i : Int} {b : Blk} (h : D.Calm) : (D.write i b).1.Calm := by
 obtain ⟨s, o, a, f, d⟩ := D
 obtain ⟨h1, h2, h3⟩ := h
 simp only at h1 h2 h3
 subst h1; subst h2; subst h3
 unfold DS.write
 simp only [Bool.false_eq_true, if_false]
 split
 ·exact ⟨rfl, rfl, rfl⟩
 ·exact ⟨rfl, rfl, rfl⟩
theorem DS.Calm.sync_eq {D : DS} (h : D.Calm) : D.sync = (⟨settled (fun _ => true) D.secs, IntKind.i64.wrap (D.ops + 1), -1, -1, false⟩, 0) := by
 obtain ⟨s, o, a, f, d⟩ := D
 obtain ⟨h1, h2, h3⟩ := h
 simp only at h1 h2 h3
 subst h1; subst h2; subst h3
 rfl
def be : Nat → Nat → List UInt8
 | 0, _ => []
 | n + 1, x => UInt8.ofNat (x / 256 ^ n) :: be n x
def YJ (l : List UInt8) : Nat := l.foldl (fun a b => a * 256 + b.toNat) 0
theorem Zs (n x : Nat) : (be n x).length = n := by induction n <;> simp [be, *]
theorem foldl_be (l : List UInt8) (a : Nat) : l.foldl (fun a b => a * 256 + b.toNat) a = a * 256 ^ l.length + YJ l := by
 unfold YJ
 induction l generalizing a with
 | nil => simp
 | cons b l ih =>
  simp only [List.foldl_cons, List.length_cons]
  rw [ih (a * 256 + b.toNat), ih (0 * 256 + b.toNat)]
  rw [Nat.pow_succ]
  simp only [Nat.zero_mul, Nat.zero_add, Nat.add_mul, Nat.mul_assoc, Nat.mul_comm 256, Nat.add_assoc]
theorem unbe_cons (b : UInt8) (l : List UInt8) : YJ (b :: l) = b.toNat * 256 ^ l.length + YJ l := by
 have := foldl_be l (0 * 256 + b.toNat)
 simp only [Nat.zero_mul, Nat.zero_add] at this
 rw [← this]; simp [YJ]
theorem unbe_snoc (b : UInt8) (l : List UInt8) : YJ (l ++ [b]) = YJ l * 256 + b.toNat := by simp [YJ]
theorem Xl (l : List UInt8) : YJ l < 256 ^ l.length := by
 induction l with
 | nil => simp [YJ]
 | cons b l ih =>
  rw [unbe_cons, List.length_cons, Nat.pow_succ]
  have hb : b.toNat < 256 := b.toNat_lt
  have : (b.toNat + 1) * 256 ^ l.length ≤ 256 * 256 ^ l.length := Nat.mul_le_mul_right _ (by omega)
  rw [Nat.add_mul] at this
  omega
theorem unbe_be (n x : Nat) : YJ (be n x) = x % 256 ^ n := by
 induction n with
 | zero => simp [be, YJ, Nat.mod_one]
 | succ n ih =>
  rw [be, unbe_cons, Zs, ih, UInt8.toNat_ofNat']
  have h1 := Nat.mod_mul (x := x) (a := 256 ^ n) (b := 256)
  have e : 256 ^ (n + 1) = 256 ^ n * 256 := by rw [Nat.pow_succ]
  have e2 : (2 : Nat) ^ 8 = 256 := by decide
  rw [e, h1, e2, Nat.mul_comm]
  omega
def z8 (n : Nat) : List UInt8 := List.replicate n 0
theorem u8_wrap (y : Nat) : Value.int .u8 (IntKind.u8.wrap (y : Int)) = ZE (UInt8.ofNat y) := by
 simp only [ZE, UInt8.toNat_ofNat', IntKind.wrap, IntKind.bits, IntKind.signed, Bool.false_and, Bool.false_eq_true, if_false]
 congr 1
theorem made_z8 (m : Nat) : madeCells (Value.int .u8 0).cells m = ⟨(z8 m).map ZE⟩ := by
 have hz : (Value.int IntKind.u8 0).cells = ⟨[ZE 0]⟩ := rfl
 rw [hz]
 apply Array.ext'
 apply List.ext_getElem?
 intro i
 by_cases hi : i < m
 ·simp [madeCells, z8, hi, Nat.mod_one]
 ·rw [List.getElem?_eq_none (by simp [madeCells]; omega), List.getElem?_eq_none (by simp [z8]; omega)]
theorem OwnS.zero (b sz : Nat) : OwnS (.slice (some ⟨b, 0, none⟩) 0 0) 0 [] [] sz := ⟨.inr ⟨b, 0, rfl, by simp, by simp, Nat.le_refl _⟩⟩
theorem isP_empty {s : Yz} (h : XA s) (j : Nat) : isP s j = false := by
 unfold isP
 cases hs : s[j]? with
 | none => rfl
 | some p =>
  have := h p (List.mem_of_getElem? hs)
  simp [this]
theorem DS.Calm.read_eq {D : DS} {i : Nat} (h : D.Calm) (hi : i < D.secs.length) : D.read i = (⟨D.secs, IntKind.i64.wrap (D.ops + 1), -1, -1, false⟩, says1 D.secs[i], 0) := by
 obtain ⟨s, o, a, f, d⟩ := D
 obtain ⟨h1, h2, h3⟩ := h
 simp only at h1 h2 h3
 subst h1; subst h2; subst h3
 simp only at hi
 have hn : ¬ ((i : Int) < 0 ∨ (s.length : Int) ≤ i) := by omega
 have hc : cnt (-1) = -1 := by decide
 unfold DS.read
 simp only [hn, if_false, Bool.false_eq_true, DS.tick, hc, show ¬ ((-1 : Int) = 0) by decide, Int.toNat_natCast, List.getElem?_eq_getElem hi, Option.getD_some]
theorem DS.Calm.write_eq {D : DS} {i : Nat} {b : Blk} (h : D.Calm) (hi : i < D.secs.length) : D.write i b = (⟨putC D.secs i b, IntKind.i64.wrap (D.ops + 1), -1, -1, false⟩, 0) := by
 obtain ⟨s, o, a, f, d⟩ := D
 obtain ⟨h1, h2, h3⟩ := h
 simp only at h1 h2 h3
 subst h1; subst h2; subst h3
 simp only at hi
 have hn : ¬ ((i : Int) < 0 ∨ (s.length : Int) ≤ i) := by omega
 have hc : cnt (-1) = -1 := by decide
 unfold DS.write
 simp only [hn, if_false, Bool.false_eq_true, DS.tick, hc, show ¬ ((-1 : Int) = 0) by decide, Int.toNat_natCast]
theorem DS.Calm.mk' {s o} : (⟨s, o, -1, -1, false⟩ : DS).Calm := ⟨rfl, rfl, rfl⟩
theorem DS.Ok.mk' {s o} (h : SecsOk s) : (⟨s, o, -1, -1, false⟩ : DS).Ok := ⟨h, by simp, by simp, by simp, by simp⟩
theorem settled_at {keep : Nat → Bool} {s : Yz} {i : Nat} (hi : i < s.length) (h' : i < (settled keep s).length) :
  (settled keep s)[i] = (if isP s i && keep (Ys s i).length then (s[i].2.getD s[i].1, none) else (s[i].1, none)) := by
 have hlt : isP s i = true → (Ys s i).length < (pend s).length := fun hp => by
  have := (pendTo_pre (s := s) (k := i + 1) (m := s.length) (by omega)).length_le
  rw [pendTo_succ_t hp] at this
  simp only [List.length_append, List.length_singleton] at this
  unfold pend; omega
 simp only [settled, setAfter, List.getElem_map, List.getElem_mapIdx]
 cases hp : isP s i with
 | false => simp
 | true =>
  have := hlt hp
  simp only [this, decide_true, Bool.true_and]
  cases keep (Ys s i).length <;> simp
theorem clone46 (ρ : Hp) (b n cap : Nat) (xs sp : List Value) (hl : xs.length = n * 64) (hn : 0 < n) (hbig : n ≤ 100000) (h1 : xs.all (·.oneCell') = true) :
  Spec Try.prog 83 [.slice (some ⟨b, 0, none⟩) n cap] ρ [[(b, .cells ⟨xs ++ sp⟩ 48 (0, 0))]] (fun v ρ' L' => ρ' = ρ ∧ ∃ sp', OwnS v n xs sp' 64 ∧ L' = [[(b, .cells ⟨xs ++ sp⟩ 48 (0, 0))], ZO v xs sp' 48]) := by
 refine Zd Try.func83 rfl rfl rfl fun u R => ?_
 simp only [Zw, List.cons_append, List.nil_append]
 have hsrc : ((xs ++ sp).drop 0).take (n * 64) = xs := by simp [hl]
 repeat' (first | (refine Zf ?_; first | (refine Ze ?_; refine qQ ?_) | refine Zk ?_) | refine Za ?_ | (refine Zg ?_; refine Zu ?_) | (refine Zh ?_; refine Zv ?_) | intro _)
 refine tl_append (n := 0) (xs := []) (sp := []) (ys := xs) rfl rfl (OwnS.zero _ 64) (hR := YK) (Src.find (n := n * 64) hsrc) hl h1 hn rfl (by omega) (by omega) rfl (fun v' sp' hown' => ?_)
 simp only [Nat.zero_add, List.nil_append] at hown' ⊢
 repeat' (first | (refine Zf ?_; first | (refine Ze ?_; refine qQ ?_) | refine Zk ?_) | refine Za ?_ | (refine Zg ?_; refine Zu ?_) | (refine Zh ?_; refine Zv ?_) | intro _)
 exact te_end rfl rfl rfl (res1 rfl (r1_tmp rfl)) (Hp.le_refl _) tk (by infer_instance) ⟨rfl, sp', hown', rfl⟩
theorem mclone47 (ρ : Hp) (b : Nat) (es : Array MapEntry) (ck : Nat) : Spec Try.prog 84 [.map (some b)] ρ [[(b, .map es ck)]] (fun v ρ' L' => ρ' = ρ ∧ ∃ b', v = .map (some b') ∧ L' = [[(b, .map es ck)], [(b', .map es ck)]]) := by
 refine Zd Try.func84 rfl rfl rfl fun u R => ?_
 simp only [Zw, List.cons_append, List.nil_append]
 repeat' (first | (refine Zb (.func 85) ?_; refine tl_mapsClone rfl Try.func85 rfl rfl rfl rfl rfl (fun _ => ?_)) | (refine Zf ?_; first | (refine Ze ?_; refine qQ ?_) | refine Zk ?_) | refine Za ?_ | (refine Zg ?_; refine Zu ?_) | (refine Zh ?_; refine Zv ?_) | intro _)
 exact qE ⟨rfl, _, rfl, rfl⟩
theorem heldC_one (s : Yz) : (Yo s).all (·.oneCell') = true := by
 unfold Yo
 rw [List.all_flatten, List.all_map, List.all_eq_true]
 intro p _
 exact ZM p.1
theorem copy_spec (ρ : Hp) (b : Nat) (hb : HB) (mb : Nat) (es : List MapEntry) (ck : Nat) (D : DS) (hD : D.Ok) :
  Spec Try.prog 71 [.pointer (some ⟨b, 0, none⟩)] ρ (Yw b hb mb es ck D) (fun v ρ' L' => ρ' = ρ ∧ ∃ b' hb' mb', v = .pointer (some ⟨b', 0, none⟩) ∧ L' = Yw b hb mb es ck D ++ Yw b' hb' mb' es ck D) := by
 obtain ⟨s, ops, armed, failing, dead⟩ := D
 have hs := hD.secs
 dsimp only at hs
 have hlen := hs.len
 have hpos := hs.pos
 have hl := heldC_length hs.held
 have h1 := heldC_one s
 refine Zd Try.func71 rfl rfl rfl fun u R => ?_
 simp only [Zw, List.cons_append, List.nil_append, Yw, dO]
 repeat' (first | (refine Zf ?_; first | (refine Ze ?_; refine qQ ?_) | refine Zk ?_) | refine Za ?_ | (refine Zg ?_; refine Zu ?_) | (refine Zh ?_; refine Zv ?_) | intro _)
 rename_i bc
 refine ZA (Zo _ _ ([[(b, .cells ⟨[.slice (some ⟨hb.b, 0, none⟩) s.length hb.cap, .map (some mb), .int .i64 ops, .int .i64 armed, .int .i64 failing, .bool dead]⟩ 61 (0, 0))]])) (Zn (hT := tk) (Hp.le_refl _)) ?_
 all_goals (refine ZL 0 ?_; refine rNc 1 ?_; refine ZU 2 ?_; refine ZX 3 ?_; refine ZL 5 ?_; refine rNc 6 ?_; refine ZU 7 ?_; refine ZX 8 ?_)
 all_goals (refine Zp (i := 4) ?_; ((try refine Zl ?_); (first | (refine Zb (.func 83) ?_; refine qC rfl rfl (clone46 _ hb.b s.length hb.cap (Yo s) hb.sp hl hpos (by omega) h1) ?_; rintro v ρ' L' hle ⟨rfl, sp', hown, rfl⟩; obtain ⟨hb', hc', rfl⟩ := hown.pos hpos; simp only [ZO, List.cons_append, List.nil_append]) | (refine Zk ?_; try intro _)) <;> ((try simp only [kM, kN, kO]); refine Za ?_; refine Zm ?_)))
 all_goals (refine Zp (i := 9) ?_; ((try refine Zl ?_); (first | (refine Zb (.func 84) ?_; refine qC rfl rfl (mclone47 _ mb _ ck) ?_; rintro v ρ' L' hle ⟨rfl, mb', rfl, rfl⟩ <;> (try simp only [kM, kN, kO])) | (refine Zk ?_; try intro _)) <;> ((try simp only [kM, kN, kO]); refine Za ?_; refine Zm ?_)))
 all_goals refine ZU 10 ?_
 all_goals (refine Zp (i := 11) ?_; ((try refine Zl ?_); (first | (refine Zk ?_; try intro _)) <;> ((try simp only [kM, kN, kO]); refine Za ?_; refine Zm ?_)))
 all_goals refine ZU 12 ?_
 all_goals (refine Zp (i := 13) ?_; ((try refine Zl ?_); (first | (refine Zk ?_; try intro _)) <;> ((try simp only [kM, kN, kO]); refine Za ?_; refine Zm ?_)))
 all_goals refine ZH ?_
 repeat' (first | (refine Zf ?_; first | (refine Ze ?_; refine qQ ?_) | refine Zk ?_) | refine Za ?_ | (refine Zg ?_; refine Zu ?_) | (refine Zh ?_; refine Zv ?_) | intro _)
 exact qE ⟨rfl, bc, ⟨hb', hc', sp'⟩, mb', rfl, rfl⟩
theorem crash_in (ρ : Hp) (b : Nat) (hb : HB) (mb : Nat) (es : List MapEntry) (ck : Nat) (D : DS) (hD : D.Ok) (hm : MapOk D.secs es) (ka : Option Addr) (kn kp m : Nat) (ks : List Bool) (hk : KeepIn ρ ka kn kp ks) (hmn : m = min kn 60) :
  Spec Try.prog 8 [.pointer (some ⟨b, 0, none⟩), .slice ka m kp] ρ (Yw b hb mb es ck D)
   (fun v ρ' L' => v = .int .i64 0 ∧ ρ.le ρ' ∧ ∃ mb' ck', L' = Yw b hb mb' [] ck' (D.crash (keepB (ks.take 60)))) := by
 have := crash_spec ρ b hb mb es ck D hD hm ka m kp [] (keepB (ks.take 60)) (fun bk nth _ => by
  obtain ⟨h1, h2, h3, h4⟩ := hk
  by_cases hlt : nth < m
  ·obtain ⟨kb, off, C, T, fr, rfl, e2, e3⟩ := h4.resolve_left (by omega)
   have hn : nth < ks.length := by omega
   have hc : C[off + nth * 1]? = some (.bool ks[nth]) := by
    have := congrArg (fun l : List Value => l[nth]?) e3
    rw [List.getElem?_take_of_lt (by omega), List.getElem?_drop] at this
    rw [Nat.mul_one, this]; simp [hn, bb]
   have hkb : keepB (ks.take 60) nth = ks[nth] := by
    unfold keepB
    rw [List.getElem?_take_of_lt (by omega), List.getElem?_eq_getElem hn, Option.getD_some]
   rw [hkb]
   exact crash1_imm ρ bk nth kb off m kp C T fr _ hlt hc e2
  ·have hkb : keepB (ks.take 60) nth = false := by
    unfold keepB
    rw [List.getElem?_eq_none (by simp; omega)]; rfl
   rw [hkb]
   exact crash1_over ρ bk nth ka m kp [] (by omega))
 simp only [List.append_nil] at this
 exact this
theorem settled_empty {f : Nat → Bool} {s : Yz} (h : XA s) : settled f s = s := by
 apply List.ext_getElem (by rw [Yb])
 intro i h1 h2
 rw [settled_at h2, isP_empty h]
 have := h s[i] (List.getElem_mem h2)
 simp only [Bool.false_and, Bool.false_eq_true, if_false]
 cases hs : s[i] with
 | mk x y => rw [hs] at this; simp only at this; rw [this]
abbrev Bs := List UInt8
def pad (l : Bs) : Blk := (l ++ z8 64).take 64
theorem pad_len (l : Bs) : (pad l).length = 64 := by simp [pad, z8]
theorem pad_of {l : Bs} (h : l.length ≤ 64) : pad l = l ++ z8 (64 - l.length) := by
 unfold pad z8
 rw [List.take_append, List.take_of_length_le h, List.take_replicate, Nat.min_eq_left (by omega)]
theorem pad_take (l : Bs) : pad (l.take 64) = pad l := by
 by_cases h : l.length ≤ 64
 ·rw [List.take_of_length_le h]
 ·unfold pad
  rw [List.take_append_of_le_length (by simp; omega), List.take_take, List.take_append_of_le_length (by omega)]; simp
structure Hd where
 turn : Nat
 first : Nat
 size : Nat
 place : Nat
 note : Bs
deriving DecidableEq
def Zt (n : Nat) : Nat := max 1 ((n + 51) / 52)
theorem YI (n : Nat) : 1 ≤ Zt n := by unfold Zt; omega
theorem sects_le {n : Nat} (h : n ≤ 8000) : Zt n ≤ 154 := by unfold Zt; omega
def YL : Bs := [98, 117, 114, 115, 114, 105, 110, 103]
def ZJ (turn n : Nat) (b : Bs) (k : Nat) : Blk := pad (be 4 turn ++ (be 5 n ++ (be 2 b.length ++ (UInt8.ofNat k :: (b.drop (52 * k)).take 52))))
def Yk (h : Hd) : Blk := pad (YL ++ (be 4 h.turn ++ (be 2 h.size ++ (be 5 h.first ++ (be 2 h.place ++ (UInt8.ofNat h.note.length :: h.note))))))
theorem YF (t n : Nat) (b : Bs) (k : Nat) : (ZJ t n b k).length = 64 := pad_len _
theorem Xq (h : Hd) : (Yk h).length = 64 := pad_len _
def Xu (s : Blk) : Hd := ⟨YJ ((s.drop 8).take 4), YJ ((s.drop 14).take 5), YJ ((s.drop 12).take 2), YJ ((s.drop 19).take 2), (s.drop 22).take (s.getD 21 0).toNat⟩
def zHd : Hd := ⟨0, 0, 0, 0, []⟩
def Hd.Right (h : Hd) (n : Nat) : Prop := 1 ≤ h.turn ∧ h.turn ≤ 1073741824 ∧ 4 ≤ h.size ∧ h.size ≤ 1000 ∧ 1 ≤ h.first ∧ h.first ≤ 1099511627776 ∧ h.place < h.size ∧ n ≤ 32
instance (h : Hd) (n : Nat) : Decidable (h.Right n) := by unfold Hd.Right; infer_instance
def Yr (s : Blk) : Hd × Bool := if (Xu s).Right (s.getD 21 0).toNat then (Xu s, decide (Yk (Xu s) = s)) else (zHd, false)
def Yt (a b : Blk) : Hd × Bool := if (Yr a).2 && (!(Yr b).2 || decide ((Yr b).1.turn ≤ (Yr a).1.turn)) then ((Yr a).1, true) else Yr b
def DS.lays : List (Nat × Blk) → DS → DS × Int
 | [], D => D.sync
 | p :: r, D => if (D.write (p.1 : Int) p.2).2 = 0 then DS.lays r (D.write (p.1 : Int) p.2).1 else D.write (p.1 : Int) p.2
def ZZ (h : Hd) (n : Nat) (b : Bs) (at' : Nat) : List (Nat × Blk) := (List.range (Zt b.length)).map fun k => (2 + (at' + k) % h.size, ZJ h.turn n b k)
theorem DS.Ok.lays : ∀ {l : List (Nat × Blk)} {D : DS}, D.Ok → (∀ p ∈ l, p.2.length = 64) → (DS.lays l D).1.Ok
 | [], D, h, _ => h.sync
 | p :: r, D, h, hl => by
  have h1 := hl p (by simp)
  unfold DS.lays
  split
  ·exact DS.Ok.lays (h.write h1) (fun q hq => hl q (by simp [hq]))
  ·exact h.write h1
theorem write_length (D : DS) (i : Int) (b : Blk) : (D.write i b).1.secs.length = D.secs.length := by
 unfold DS.write
 split
 ·rfl
 ·split
  ·rfl
  ·split
   ·simp [YN]
   ·split
    ·rfl
    ·simp [YN]
theorem sync_length (D : DS) : D.sync.1.secs.length = D.secs.length := by
 unfold DS.sync
 split
 ·rfl
 ·split
  ·rfl
  ·split
   ·rfl
   ·simp [Yb]
theorem lays_length : ∀ (l : List (Nat × Blk)) (D : DS), (DS.lays l D).1.secs.length = D.secs.length
 | [], D => sync_length D
 | p :: r, D => by
  unfold DS.lays
  split
  ·rw [lays_length, write_length]
  ·exact write_length _ _ _
structure Rd (ρ : Hp) (X : SH) (a : Option Addr) (n : Nat) (l : Bs) : Prop where
 len : l.length = n
 src : ∀ (x : Cx) (ρ' : Hp) (L R : SH), ρ.le ρ' → YH L X R → SrcV x ρ' L a (l.map ZE)
theorem Rd.mono {ρ ρ' : Hp} {X : SH} {a : Option Addr} {n : Nat} {l : Bs} (h : Rd ρ X a n l) (hle : ρ.le ρ') : Rd ρ' X a n l := ⟨h.len, fun x ρ2 L R h2 hT => h.src x ρ2 L R (Hp.le_trans hle h2) hT⟩
theorem SIn.rd {ρ : Hp} {a : Option Addr} {n : Nat} {l : Bs} (h : SIn ρ ZE a n l) : Rd ρ [] a n l := ⟨h.len, fun x ρ' L R hle _ => (h.mono hle).srcV⟩
theorem OwnS.rd {ρ : Hp} {a : Option Addr} {n c : Nat} {l : Bs} {sp : List Value} {T : TypeId} (h : OwnS (.slice a n c) n (l.map ZE) sp 1) : Rd ρ [ZO (.slice a n c) (l.map ZE) sp T] a n l := by
 refine ⟨?_, fun x ρ' L R hle hT => ?_⟩
 ·obtain ⟨_, _, _, h2⟩ := h.len
  simpa using h2
 ·rcases h.out with ⟨e1, h1, h2, h3⟩ | ⟨b, c', e1, h2, h3, h4⟩
  ·exact .inl h2
  ·cases e1
   refine .inr ⟨b, 0, rfl, fun w hw j c hj => ?_⟩
   have hw' := hw.perm hT.out
   have hb : w.heap[b]? = some (.cells ⟨l.map ZE ++ sp⟩ T (0, 0)) := hw'.here (b, .cells ⟨l.map ZE ++ sp⟩ T (0, 0)) (by simp [ZO])
   simp only [World.cell?, hb, Option.isSome_none, Bool.false_eq_true, if_false, Nat.zero_add]
   simp only [List.getElem?_toArray]
   rw [List.getElem?_append_left (List.getElem?_eq_some_iff.1 hj).1]; exact hj
theorem SrcV.sub {x : Cx} {ρ : Hp} {L : SH} {a : Option Addr} {ys : List Value} (h : SrcV x ρ L a ys) {lo' k cap : Nat} (hk : lo' + k ≤ ys.length) (hc : ys.length ≤ cap) : SrcV x ρ L (if cap = lo' then a else a.map (·.add (lo' * 1))) ((ys.drop lo').take k) := by
 rcases h with rfl | ⟨b, off, rfl, hs⟩
 ·left; simp
 ·by_cases h0 : k = 0
  ·left; simp [h0]
  ·right
   rw [if_neg (by omega)]
   refine ⟨b, off + lo', by simp [Yg], fun w hw j c hj => ?_⟩
   have hlt : j < k := by
    have := (List.getElem?_eq_some_iff.1 hj).1
    simp at this; omega
   rw [List.getElem?_take_of_lt hlt, List.getElem?_drop] at hj
   have := hs w hw (lo' + j) c hj
   rw [Nat.add_assoc]; exact this
structure DK where
 hb : HB
 mb : Nat
 es : List MapEntry
 ck : Nat
abbrev Zi (b : Nat) (k : DK) (D : DS) : SH := Yw b k.hb k.mb k.es k.ck D
structure DOk (k : DK) (D : DS) : Prop where
 ok : D.Ok
 map : MapOk D.secs k.es
structure RgS where
 h : Hd
 ents : List Bs
 used : Nat
 broken : Bool
def ZB (l : List Bs) : Nat := (l.map fun b => Zt b.length).sum
theorem YO (l m : List Bs) : ZB (l ++ m) = ZB l + ZB m := by simp [ZB]
theorem Xd (b : Bs) (l : List Bs) : ZB (b :: l) = Zt b.length + ZB l := by simp [ZB]
theorem Xf (l : List Bs) (n : Nat) : ZB (l.take n) + ZB (l.drop n) = ZB l := by rw [← YO, List.take_append_drop]
theorem Xi (l : List Bs) : l.length ≤ ZB l := by
 induction l with
 | nil => simp [ZB]
 | cons b r ih => have := YI b.length; rw [Xd]; simp; omega
def RgS.next (R : RgS) : Nat := R.h.first + R.ents.length
structure RgS.Ok (R : RgS) : Prop where
 turn : 1 ≤ R.h.turn ∧ R.h.turn ≤ 1073741824
 size : 4 ≤ R.h.size ∧ R.h.size ≤ 1000
 first : 1 ≤ R.h.first
 next : R.next ≤ 1099511627776
 place : R.h.place < R.h.size
 note : R.h.note.length ≤ 32
 used : R.used = ZB R.ents
 fit : R.used ≤ R.h.size
 long : ∀ b ∈ R.ents, b.length ≤ 8000
def ZQ (h : Hd) : List (Nat × Blk) := [(h.turn % 2, Yk h)]
def Hd.cut (h : Hd) (n gone : Nat) (note : Bs) : Hd := ⟨h.turn + 1, h.first + n, h.size, (h.place + gone) % h.size, note⟩
def RgS.append (R : RgS) (b : Bs) (D : DS) : RgS × DS × Int :=
 if R.broken then (R, D, 8)
 else if 8000 < b.length then (R, D, 3)
 else if R.h.size - R.used < Zt b.length ∨ 1099511627776 ≤ R.next then (R, D, 6)
 else if (DS.lays (ZZ R.h R.next b (R.h.place + R.used)) D).2 = 0 then (⟨R.h, R.ents ++ [b], R.used + Zt b.length, false⟩, DS.lays (ZZ R.h R.next b (R.h.place + R.used)) D)
 else ({ R with broken := true }, DS.lays (ZZ R.h R.next b (R.h.place + R.used)) D)
def RgS.cutH (R : RgS) (n : Nat) (note : Bs) : Hd := R.h.cut n (ZB (R.ents.take n)) note
def RgS.cut (R : RgS) (n : Int) (note : Bs) (D : DS) : RgS × DS × Int :=
 if R.broken then (R, D, 8)
 else if n < 0 ∨ (R.ents.length : Int) < n ∨ R.h.turn = 1073741824 then (R, D, 2)
 else if 32 < note.length then (R, D, 3)
 else if (DS.lays (ZQ (R.cutH n.toNat note)) D).2 = 0 then (⟨R.cutH n.toNat note, R.ents.drop n.toNat, R.used - ZB (R.ents.take n.toNat), false⟩, DS.lays (ZQ (R.cutH n.toNat note)) D)
 else ({ R with broken := true }, DS.lays (ZQ (R.cutH n.toNat note)) D)
def ZK (size : Nat) : Hd := ⟨1, 1, size, 0, []⟩
def ZG (size : Nat) : List (Nat × Blk) := (List.range (size + 2)).map fun i => (i, Yv)
def Yj (size : Int) (D : DS) : Option RgS × DS × Int :=
 if size < 4 ∨ 1000 < size ∨ (D.secs.length : Int) < size + 2 then (none, D, 2)
 else if (DS.lays (ZG size.toNat) D).2 = 0 then
  if (DS.lays (ZQ (ZK size.toNat)) (DS.lays (ZG size.toNat) D).1).2 = 0 then (some ⟨ZK size.toNat, [], 0, false⟩, DS.lays (ZQ (ZK size.toNat)) (DS.lays (ZG size.toNat) D).1)
  else (none, DS.lays (ZQ (ZK size.toNat)) (DS.lays (ZG size.toNat) D).1)
 else (none, DS.lays (ZG size.toNat) D)
def Yi (n : Nat) (l : Bs) : Bs := (l ++ z8 n).take n
theorem YY (n : Nat) (l : Bs) : (Yi n l).length = n := by simp [Yi, z8]
def entGo (h : Hd) (n at' turn size : Nat) : Nat → Nat → Bs → DS → Option Bs × DS × Int
 | 0, _, acc, D => (some (Yi size acc), D, 0)
 | j + 1, k, acc, D =>
  if (D.read ((2 + (at' + k) % h.size : Nat) : Int)).2.2 ≠ 0 then (none, (D.read ((2 + (at' + k) % h.size : Nat) : Int)).1, (D.read ((2 + (at' + k) % h.size : Nat) : Int)).2.2)
  else if ZJ turn n (Yi size (acc ++ (D.read ((2 + (at' + k) % h.size : Nat) : Int)).2.1.drop 12)) k = (D.read ((2 + (at' + k) % h.size : Nat) : Int)).2.1 then
   entGo h n at' turn size j (k + 1) (acc ++ (D.read ((2 + (at' + k) % h.size : Nat) : Int)).2.1.drop 12) (D.read ((2 + (at' + k) % h.size : Nat) : Int)).1
  else (none, (D.read ((2 + (at' + k) % h.size : Nat) : Int)).1, 0)
def ZW (s : Blk) : Nat := YJ (s.take 4)
def numOf (s : Blk) : Nat := YJ ((s.drop 4).take 5)
def Zz (s : Blk) : Nat := YJ ((s.drop 9).take 2)
def entGo0 (h : Hd) (n at' left : Nat) (s : Blk) (D : DS) : Option Bs × DS × Int :=
 if ZW s < 1 ∨ h.turn < ZW s ∨ 8000 < Zz s ∨ left < Zt (Zz s) then (none, D, 0)
 else if ZJ (ZW s) n (Yi (Zz s) (s.drop 12)) 0 = s then entGo h n at' (ZW s) (Zz s) (Zt (Zz s) - 1) 1 (s.drop 12) D
 else (none, D, 0)
def Xm (h : Hd) (n at' left : Nat) (D : DS) : Option Bs × DS × Int :=
 if left = 0 then (none, D, 0)
 else if (D.read ((2 + at' % h.size : Nat) : Int)).2.2 ≠ 0 then (none, (D.read ((2 + at' % h.size : Nat) : Int)).1, (D.read ((2 + at' % h.size : Nat) : Int)).2.2)
 else entGo0 h n at' left (D.read ((2 + at' % h.size : Nat) : Int)).2.1 (D.read ((2 + at' % h.size : Nat) : Int)).1
def RgS.adds (R : RgS) (b : Bs) : RgS := { R with ents := R.ents ++ [b], used := R.used + Zt b.length }
def Yh : Nat → RgS → DS → RgS × DS × Int
 | 0, R, D => (R, D, 0)
 | f + 1, R, D =>
  if R.next < 1099511627776 then
   match Xm R.h R.next (R.h.place + R.used) (R.h.size - R.used) D with
   | (some b, D', e) => if e = 0 then Yh f (R.adds b) D' else (R, D', e)
   | (none, D', e) => (R, D', e)
  else (R, D, 0)
def openH (h : Hd) (D : DS) : Option RgS × DS × Int :=
 if D.secs.length < h.size + 2 then (none, D, 140)
 else if (Yh (h.size + 1) ⟨h, [], 0, false⟩ D).2.2 ≠ 0 then (none, (Yh (h.size + 1) ⟨h, [], 0, false⟩ D).2)
 else if h.turn = 1073741824 then (none, (Yh (h.size + 1) ⟨h, [], 0, false⟩ D).2.1, 140)
 else if (DS.lays (ZQ { h with turn := h.turn + 1 }) (Yh (h.size + 1) ⟨h, [], 0, false⟩ D).2.1).2 = 0 then
  (some { (Yh (h.size + 1) ⟨h, [], 0, false⟩ D).1 with h := { h with turn := h.turn + 1 } }, DS.lays (ZQ { h with turn := h.turn + 1 }) (Yh (h.size + 1) ⟨h, [], 0, false⟩ D).2.1)
 else (none, DS.lays (ZQ { h with turn := h.turn + 1 }) (Yh (h.size + 1) ⟨h, [], 0, false⟩ D).2.1)
def openR (D : DS) : Option RgS × DS × Int :=
 if (D.read 0).2.2 ≠ 0 then (none, (D.read 0).1, (D.read 0).2.2)
 else if ((D.read 0).1.read 1).2.2 ≠ 0 then (none, ((D.read 0).1.read 1).1, ((D.read 0).1.read 1).2.2)
 else if (Yt (D.read 0).2.1 ((D.read 0).1.read 1).2.1).2 = false then (none, ((D.read 0).1.read 1).1, 140)
 else openH (Yt (D.read 0).2.1 ((D.read 0).1.read 1).2.1).1 ((D.read 0).1.read 1).1
theorem shr_byteR (V m : Nat) : Value.int .u8 (IntKind.u8.wrap ((V : Int) / 2 ^ (8 * m))) = ZE (UInt8.ofNat (V / 256 ^ m)) := by
 have h2 : (2 ^ (8 * m) : Nat) = 256 ^ m := by rw [Nat.pow_mul]
 have h3 : ((2 : Int) ^ (8 * m)) = ((2 ^ (8 * m) : Nat) : Int) := by rw [Int.natCast_pow]; rfl
 rw [h3, h2, ← Int.natCast_ediv, u8_wrap]
theorem be_take_succ : ∀ (n V j : Nat), j < n → (be n V).take (j + 1) = (be n V).take j ++ [UInt8.ofNat (V / 256 ^ (n - 1 - j))]
 | 0, V, j, h => by omega
 | n + 1, V, 0, h => by simp [be]
 | n + 1, V, j + 1, h => by
  have ih := be_take_succ n V j (by omega)
  rw [be, List.take_succ_cons, List.take_succ_cons, ih]
  simp only [List.cons_append, List.cons.injEq, true_and]
  rw [show n + 1 - 1 - (j + 1) = n - 1 - j by omega]
theorem put_spec (ρ : Hp) (v : Value) (c : List (Nat × Obj)) (l : Bs) (h : AppB v c 5 l) (x m : Nat) (hx : x < 18446744073709551616) (hm : m ≤ 8) (hm0 : 0 < m) (hl : l.length ≤ 1000000) :
  Spec Try.prog 79 [v, .int .u64 x, .int .i64 m] ρ [c] (fun v' ρ' L' => ρ' = ρ ∧ ∃ sp, OwnS v' (l.length + m) ((l ++ be m x).map ZE) sp 1 ∧ L' = [ZO v' ((l ++ be m x).map ZE) sp 5]) := by
 refine Zd Try.func79 rfl rfl rfl fun u R => ?_
 simp only [Zw, List.cons_append, List.nil_append]
 repeat' (first | (refine Zf ?_; first | (refine Ze ?_; refine qQ ?_) | refine Zk ?_) | refine Za ?_ | (refine Zg ?_; refine Zu ?_) | (refine Zh ?_; refine Zv ?_) | intro _)
 refine ZP [(1, _), (6, _)] (fun (ζ : (Nat) × (Int) × (Value) × (List (Nat × Obj))) => [(7, .int .i64 ζ.2.1), (0, ζ.2.2.1)]) (fun (ζ : (Nat) × (Int) × (Value) × (List (Nat × Obj))) => ρ) (fun (ζ : (Nat) × (Int) × (Value) × (List (Nat × Obj))) => [ζ.2.2.2]) (fun (ζ : (Nat) × (Int) × (Value) × (List (Nat × Obj))) => ζ.1 ≤ m ∧ ζ.2.1 = (m : Int) - 1 - (ζ.1 : Int) ∧ AppB ζ.2.2.1 ζ.2.2.2 5 (l ++ (be m x).take ζ.1) ∧ (ζ.1 = 0 ∨ ∃ sp, OwnS ζ.2.2.1 (l.length + ζ.1) ((l ++ (be m x).take ζ.1).map ZE) sp 1 ∧ ζ.2.2.2 = ZO ζ.2.2.1 ((l ++ (be m x).take ζ.1).map ZE) sp 5)) (fun (ζ : (Nat) × (Int) × (Value) × (List (Nat × Obj))) => m - ζ.1) ((0, (m : Int) - 1, v, c)) (⟨Nat.zero_le _, by simp, by simpa using h, .inl rfl⟩) Zx Zx rfl tk ?_
 rintro ⟨j, i, v1, c1⟩ hI
 try simp only [List.cons_append, List.nil_append, List.append_assoc, List.append_eq] at hI ⊢
 try dsimp only at hI ⊢
 obtain ⟨hj, hi, ha, hor⟩ := hI
 by_cases hlt : j < m
 ·have hsh := shr_byteR x (m - 1 - j)
  have hts := be_take_succ m x j hlt
  have hlen : ((be m x).take j).length = j := by simp [Zs]; omega
  subst hi
  have hmin : min (8 * ((m : Int) - 1 - (j : Int))).toNat 64 = 8 * (m - 1 - j) := by omega
  have hmm : l ++ (be m x).take j ++ [UInt8.ofNat (x / 256 ^ (m - 1 - j))] = l ++ (be m x).take (j + 1) := by rw [hts]; simp
  have hll : (l ++ (be m x).take (j + 1)).length = l.length + (j + 1) := by simp [Zs]; omega
  repeat' (first | (refine Zq rfl rfl rfl rfl (by simp) rfl rfl (fun _ => ?_); simp only [hmin, hsh]) | (refine tl_appB (ys := [UInt8.ofNat (x / 256 ^ (m - 1 - j))]) (m := 1) rfl rfl ha (hR := by infer_instance) SrcV.lit rfl (by simp) (by simp [Zs]; omega) rfl (fun v2 sp2 hown2 => ?_); rw [hmm] at hown2 ⊢) | (refine Zf ?_; first | (refine Ze ?_; refine qQ ?_) | refine Zk ?_) | refine Za ?_ | (refine Zg ?_; refine Zu ?_) | (refine Zh ?_; refine Zv ?_) | intro _)
  have ha2 := hown2.appB (T := 5) rfl
  rw [hll] at hown2
  refine ZI (j + 1, (m : Int) - 1 - (j : Int) - 1, v2, _) (⟨hlt, by dsimp only; omega, ha2, .inr ⟨sp2, hown2, rfl⟩⟩) Zx Zx rfl tk inferInstance (by first | omega | (dsimp only; omega))
 ·have hk2 : j = m := by omega
  subst hk2
  obtain ⟨sp, hown, rfl⟩ := hor.resolve_left (by omega)
  rw [List.take_of_length_le (by rw [Zs]; exact Nat.le_refl _)] at *
  repeat' (first | (refine Zf ?_; first | (refine Ze ?_; refine qQ ?_) | refine Zk ?_) | refine Za ?_ | (refine Zg ?_; refine Zu ?_) | (refine Zh ?_; refine Zv ?_) | intro _)
  exact qE ⟨rfl, sp, hown, rfl⟩
theorem high04_own (ρ : Hp) (x n : Nat) (hz : x < 18446744073709551616) (hn : n ≤ 8) :
  Spec Try.prog 72 [.int .u64 (x : Nat), .int .i64 n] ρ [] (fun v ρ' L' => ρ' = ρ ∧ ∃ a c sp, v = .slice a n c ∧ OwnS (.slice a n c) n ((be n x).map ZE) sp 1 ∧ L' = [ZO (.slice a n c) ((be n x).map ZE) sp 5]) := by
 refine Zd Try.func72 rfl rfl rfl fun u R => ?_
 simp only [Zw, List.cons_append, List.nil_append]
 repeat' (first | (refine ZV ?_; refine Zy (Zc rfl) rfl rfl ?_) | (refine Zf ?_; first | (refine Ze ?_; refine qQ ?_) | refine Zk ?_) | refine Za ?_ | (refine Zg ?_; refine Zu ?_) | (refine Zh ?_; refine Zv ?_) | intro _)
 rw [show ((n : Int) - 1) = (n : Int) - 1 - ((0 : Nat) : Int) by omega]
 refine ZP [(0, _), (4, _)] (fun (ζ : (Nat) × (Value) × (List Value)) => [(6, .int .i64 ((n : Int) - 1 - (ζ.1 : Int))), (5, ζ.2.1)]) (fun (ζ : (Nat) × (Value) × (List Value)) => ρ) (fun (ζ : (Nat) × (Value) × (List Value)) => [ZO ζ.2.1 (((be n x).take ζ.1).map ZE) ζ.2.2 5]) (fun (ζ : (Nat) × (Value) × (List Value)) => ζ.1 ≤ n ∧ OwnS ζ.2.1 ζ.1 (((be n x).take ζ.1).map ZE) ζ.2.2 1) (fun (ζ : (Nat) × (Value) × (List Value)) => n - ζ.1) ((0, .slice none 0 0, [])) (⟨Nat.zero_le _, OwnS.nil 1⟩) Zx Zx rfl tk ?_
 rintro ⟨j, v, sp⟩ hI
 try simp only [List.cons_append, List.nil_append, List.append_assoc, List.append_eq] at hI ⊢
 try dsimp only at hI ⊢
 obtain ⟨hj, hown⟩ := hI
 by_cases hj8 : j < n
 ·have hsh := shr_byteR x (n - 1 - j)
  have hts := be_take_succ n x j hj8
  have hxx : ((be n x).take j).map ZE ++ [ZE (UInt8.ofNat (x / 256 ^ (n - 1 - j)))] = ((be n x).take (j + 1)).map ZE := by rw [hts]; simp
  obtain ⟨va, vc, rfl, _⟩ := hown.slice
  repeat' (first | (refine iSr ?_; refine Zy (y_shr (c := 8 * (n - 1 - j)) rfl rfl (by omega) (by simp only [IntKind.bits]; omega)) rfl rfl ?_) | (refine iCv ?_; refine Zy (y_conv (k := .u8) rfl) rfl rfl ?_; rw [hsh]) | (refine Zq rfl rfl rfl rfl (by simp) rfl rfl (fun _ => ?_)) | (refine Xv (ys := [ZE (UInt8.ofNat (x / 256 ^ (n - 1 - j)))]) (m := 1) rfl rfl hown (hR := by infer_instance) SrcV.lit rfl rfl (by decide) rfl (by omega) (by omega) rfl (fun v2 sp2 hown2 => ?_); rw [hxx] at hown2 ⊢) | (refine ZV ?_; refine Zy (Zc rfl) rfl rfl ?_) | (refine Zf ?_; first | (refine Ze ?_; refine qQ ?_) | refine Zk ?_) | refine Za ?_ | (refine Zg ?_; refine Zu ?_) | (refine Zh ?_; refine Zv ?_) | intro _)
  have e7 : ((n : Int) - 1 - (j : Int) - 1) = (n : Int) - 1 - ((j + 1 : Nat) : Int) := by omega
  rw [e7]
  refine ZI (j + 1, v2, sp2) (⟨hj8, hown2⟩) Zx Zx rfl tk inferInstance (by first | omega | (dsimp only; omega))
 ·obtain rfl : j = n := by omega
  rw [show (be j x).take j = be j x from List.take_of_length_le (by rw [Zs]; exact Nat.le_refl _)] at hown ⊢
  obtain ⟨va, vc, rfl, _⟩ := hown.slice
  repeat' (first | (refine ZV ?_; refine Zy (Zc rfl) rfl rfl ?_) | (refine Zf ?_; first | (refine Ze ?_; refine qQ ?_) | refine Zk ?_) | refine Za ?_ | (refine Zg ?_; refine Zu ?_) | (refine Zh ?_; refine Zv ?_) | intro _)
  exact qE ⟨rfl, va, vc, sp, rfl, hown, rfl⟩
theorem Ye (ρ : Hp) (x n : Nat) (hz : x < 18446744073709551616) (hn : n ≤ 8) :
  Spec Try.prog 72 [.int .u64 (x : Nat), .int .i64 n] ρ [] (fun v ρ' L' => (ρ.le ρ' ∧ ∃ a c, v = .slice a n c ∧ n ≤ c ∧ SIn ρ' ZE a n (be n x)) ∧ L' = []) := by
 refine (high04_own ρ x n hz hn).freeze ?_
 rintro v ρ' L' hle ⟨rfl, a, c, sp, rfl, hown, rfl⟩ ρ2 hl2 hf
 obtain ⟨a3, c3, e3, hc3, hs3⟩ := hown.sIn (fun p hp => hf p (by simpa using hp))
 cases e3
 exact ⟨hl2, a, c, rfl, hc3, hs3⟩
theorem Xh (ρ : Hp) (a : Option Addr) (n c : Nat) (l : List UInt8) (h : SIn ρ ZE a n l) (h8 : n ≤ 8) :
  Spec Try.prog 82 [.slice a n c] ρ [] (fun z ρ' L' => z = .int .u64 (YJ l : Nat) ∧ ρ' = ρ ∧ L' = []) := by
 have hl := h.len
 refine Zd Try.func82 rfl rfl rfl fun u R => ?_
 simp only [Zw, List.cons_append, List.nil_append]
 repeat' (first | (refine ZV ?_; refine Zy (Zc rfl) rfl rfl ?_) | (refine Zf ?_; first | (refine Ze ?_; refine qQ ?_) | refine Zk ?_) | refine Za ?_ | (refine Zg ?_; refine Zu ?_) | (refine Zh ?_; refine Zv ?_) | intro _)
 refine ZP [(2, _), (6, _), (7, _)] (fun (ζ : (Nat) × (Nat)) => [(8, .int .i64 ζ.1), (3, .int .u64 ζ.2)]) (fun (ζ : (Nat) × (Nat)) => ρ) (fun (ζ : (Nat) × (Nat)) => []) (fun (ζ : (Nat) × (Nat)) => ζ.1 ≤ n ∧ ζ.2 = YJ (l.take ζ.1)) (fun (ζ : (Nat) × (Nat)) => n - ζ.1) ((0, 0)) (⟨Nat.zero_le _, rfl⟩) Zx Zx rfl tk ?_
 rintro ⟨k, m⟩ hI
 try simp only [List.cons_append, List.nil_append, List.append_assoc, List.append_eq] at hI ⊢
 try dsimp only at hI ⊢
 obtain ⟨hk, hm⟩ := hI
 by_cases hlt : k < n
 ·obtain ⟨b, off, C, T, fr, e1, hb, hc⟩ := h.get (show k < l.length by omega)
  have hts : l.take (k + 1) = l.take k ++ [l[k]'(by omega)] := List.take_succ_eq_append_getElem (show k < l.length by omega)
  generalize l[k]'(by omega) = x at *
  have hlt7 : m < 72057594037927936 := by
   have h1 := Xl (l.take k)
   rw [← hm, show (l.take k).length = k by simp; omega] at h1
   have h2 : 256 ^ k ≤ 256 ^ 7 := Nat.pow_le_pow_right (by decide) (by omega)
   have h3 : 256 ^ 7 = 72057594037927936 := rfl
   omega
  have hx := x.toNat_lt
  have hnx : YJ (l.take (k + 1)) = m * 256 + x.toNat := by rw [hts, unbe_snoc, hm]
  rw [e1]
  repeat' (first | (refine ZV ?_; refine Zy (Zc rfl) rfl rfl ?_) | (refine Zf ?_; first | (refine Ze ?_; refine qQ ?_) | refine Zk ?_) | refine Za ?_ | (refine Zg ?_; refine Zu ?_) | (refine Zh ?_; refine Zv ?_) | intro _)
  rw [← e1]
  simp only [show (m:Int)*256 + (x.toNat:Int) = ((m*256+x.toNat : Nat):Int) by omega]
  refine ZI (k + 1, m * 256 + x.toNat) (⟨hlt, hnx.symm⟩) Zx Zx rfl tk inferInstance (by first | omega | (dsimp only; omega))
 ·obtain rfl : k = n := by omega
  rw [List.take_of_length_le (by omega)] at hm
  subst hm
  repeat' (first | (refine ZV ?_; refine Zy (Zc rfl) rfl rfl ?_) | (refine Zf ?_; first | (refine Ze ?_; refine qQ ?_) | refine Zk ?_) | refine Za ?_ | (refine Zg ?_; refine Zu ?_) | (refine Zh ?_; refine Zv ?_) | intro _)
  exact qE (L' := []) ⟨rfl, rfl, rfl⟩
theorem take_succ_unbe (l : List UInt8) (k : Nat) (h : k < l.length) : YJ (l.take (k + 1)) = YJ (l.take k) * 256 + l[k].toNat := by
 rw [List.take_succ_eq_append_getElem h, unbe_snoc]
theorem unbe_take_lt (l : List UInt8) (k : Nat) (h : k < l.length) (h8 : l.length ≤ 8) : YJ (l.take k) < 72057594037927936 := by
 have h1 := Xl (l.take k)
 have h2 : (l.take k).length ≤ 7 := by simp; omega
 have h3 : 256 ^ (l.take k).length ≤ 256 ^ 7 := Nat.pow_le_pow_right (by decide) h2
 have h4 : 256 ^ 7 = 72057594037927936 := by decide
 omega
theorem numb_spec (ρ : Hp) (a : Option Addr) (n c : Nat) (l : Bs) (h : SIn ρ ZE a n l) (hn : n ≤ 8) :
  Spec Try.prog 81 [.slice a n c] ρ [] (fun v ρ' L' => v = .int .u64 (YJ l : Nat) ∧ ρ' = ρ ∧ L' = []) := by
 have hl := h.len
 refine Zd Try.func81 rfl rfl rfl fun u R => ?_
 simp only [Zw, List.cons_append, List.nil_append]
 repeat' (first | (refine Zf ?_; first | (refine Ze ?_; refine qQ ?_) | refine Zk ?_) | refine Za ?_ | (refine Zg ?_; refine Zu ?_) | (refine Zh ?_; refine Zv ?_) | intro _)
 refine ZP [(5, _), (6, _)] (fun (ζ : (Nat) × (Nat)) => [(7, .int .i64 ζ.1), (2, .int .u64 (ζ.2 : Nat))]) (fun (ζ : (Nat) × (Nat)) => ρ) (fun (ζ : (Nat) × (Nat)) => []) (fun (ζ : (Nat) × (Nat)) => ζ.1 ≤ n ∧ ζ.2 = YJ (l.take ζ.1)) (fun (ζ : (Nat) × (Nat)) => n - ζ.1) ((0, 0)) (⟨Nat.zero_le _, rfl⟩) Zx Zx rfl tk ?_
 rintro ⟨k, z⟩ hI
 try simp only [List.cons_append, List.nil_append, List.append_assoc, List.append_eq] at hI ⊢
 try dsimp only at hI ⊢
 obtain ⟨hk, hz⟩ := hI
 by_cases hlt : k < n
 ·obtain ⟨b, off, C, T, fr, rfl, hb, hc⟩ := h.get (show k < l.length by omega)
  have hzl := unbe_take_lt l k (by omega) (by omega)
  rw [← hz] at hzl
  have hs := take_succ_unbe l k (by omega)
  have hbt : l[k].toNat < 256 := l[k].toNat_lt
  generalize l[k] = b8 at *
  simp only [ZE] at hc
  repeat' (first | (refine Zf ?_; first | (refine Ze ?_; refine qQ ?_) | refine Zk ?_) | refine Za ?_ | (refine Zg ?_; refine Zu ?_) | (refine Zh ?_; refine Zv ?_) | intro _)
  have e : (z : Int) * 256 + (b8.toNat : Int) = ((z * 256 + b8.toNat : Nat) : Int) := by omega
  rw [e]
  refine ZI (k + 1, z * 256 + b8.toNat) (⟨hlt, by dsimp only; rw [hs, hz]⟩) Zx Zx rfl tk inferInstance (by first | omega | (dsimp only; omega))
 ·have hk2 : k = n := by omega
  subst hk2
  rw [List.take_of_length_le (by omega)] at hz
  subst hz
  repeat' (first | (refine Zf ?_; first | (refine Ze ?_; refine qQ ?_) | refine Zk ?_) | refine Za ?_ | (refine Zg ?_; refine Zu ?_) | (refine Zh ?_; refine Zv ?_) | intro _)
  exact qE ⟨rfl, rfl, rfl⟩
theorem sects_spec (ρ : Hp) (n : Nat) (hn : n ≤ 4611686018427387904) : Spec Try.prog 41 [.int .i64 n] ρ [] (fun v ρ' L' => v = .int .i64 (Zt n : Nat) ∧ ρ' = ρ ∧ L' = []) := by
 refine Zd Try.func41 rfl rfl rfl fun u R => ?_
 simp only [Zw, List.cons_append, List.nil_append]
 have e : max 1 (IntKind.i64.wrap (((n : Int) + 52 - 1).tdiv 52)) = ((Zt n : Nat) : Int) := by
  rw [Int.tdiv_eq_ediv_of_nonneg (by omega), Xr (by simp only [lo, hi]; omega)]
  unfold Zt; omega
 repeat' (first | (refine Zf ?_; first | (refine Ze ?_; refine qQ ?_) | refine Zk ?_) | refine Za ?_ | (refine Zg ?_; refine Zu ?_) | (refine Zh ?_; refine Zv ?_) | intro _)
 rw [e]
 exact qE ⟨rfl, rfl, rfl⟩
theorem block_spec (ρ : Hp) (v : Value) (n : Nat) (l : Bs) (sp : List Value) (h : OwnS v n (l.map ZE) sp 1) :
  Spec Try.prog 80 [v] ρ [ZO v (l.map ZE) sp 5] (fun v ρ' L' => v = bv (pad l) ∧ ρ' = ρ ∧ L' = []) := by
 obtain ⟨a, cap, rfl, hl⟩ := h.len
 have hl' : l.length = n := by simpa using hl
 refine Zd Try.func80 rfl rfl rfl fun u R => ?_
 simp only [Zw, List.cons_append, List.nil_append]
 have hz : (List.replicate 64 (Value.int .u8 0)).length = 64 := by simp
 have hst : stc (List.replicate 64 (Value.int .u8 0)) 0 ((l.map ZE).take 64) = (pad l).map ZE := by
  unfold stc
  rw [← pad_take]
  have hl64 : (l.take 64).length ≤ 64 := by simp; omega
  rw [pad_of hl64]
  simp only [List.take_zero, List.nil_append, List.map_append, List.map_take, Nat.zero_add]
  congr 1
  rw [List.drop_replicate]
  simp only [z8, List.map_replicate, List.length_take, List.length_map]
  rfl
 have hpl : ((pad l).map ZE).length = 64 := by simp [pad_len]
 have h1 := ZM (pad l)
 repeat' (first | (refine Zf ?_; first | (refine Ze ?_; refine qQ ?_) | refine Zk ?_) | refine Za ?_ | (refine Zg ?_; refine Zu ?_) | (refine Zh ?_; refine Zv ?_) | intro _)
 refine tl_copy (ys := l.map ZE) rfl rfl (SrcV.own (v := .nilIface) h (T := 5) (hR := by infer_instance)) (by simpa using hl) (ZM l) (by rw [hz]; omega) rfl ?_
 simp only [hst]
 repeat' (first | (refine Zf ?_; first | (refine Ze ?_; refine qQ ?_) | refine Zk ?_) | refine Za ?_ | (refine Zg ?_; refine Zu ?_) | (refine Zh ?_; refine Zv ?_) | intro _)
 exact qE ⟨rfl, rfl, rfl⟩
theorem Xy (ρ : Hp) {v : Value} {l : Bs} {sp : List Value} (h : OwnS v l.length (l.map ZE) sp 1) (x m : Nat) (hx : x < 18446744073709551616) (hm : m ≤ 8) (hm0 : 0 < m) (hl : l.length ≤ 1000000) :
  Spec Try.prog 79 [v, .int .u64 x, .int .i64 m] ρ [ZO v (l.map ZE) sp 5] (fun v' ρ' L' => ρ' = ρ ∧ ∃ sp, OwnS v' (l ++ be m x).length ((l ++ be m x).map ZE) sp 1 ∧ L' = [ZO v' ((l ++ be m x).map ZE) sp 5]) := by
 have := put_spec ρ v _ l (h.appB rfl) x m hx hm hm0 hl
 rwa [show l.length + m = (l ++ be m x).length by simp [Zs]] at this
theorem put_nil (ρ : Hp) (x m : Nat) (hx : x < 18446744073709551616) (hm : m ≤ 8) (hm0 : 0 < m) :
  Spec Try.prog 79 [.slice none 0 0, .int .u64 x, .int .i64 m] ρ [[]] (fun v' ρ' L' => ρ' = ρ ∧ ∃ sp, OwnS v' (be m x).length ((be m x).map ZE) sp 1 ∧ L' = [ZO v' ((be m x).map ZE) sp 5]) :=
 Xy ρ (l := []) (sp := []) (OwnS.nil 1) x m hx hm hm0 (by simp)
theorem ZR {x : Cx} {Q : Exit → Act → World → Prop} {E : Env} {ρ : Hp} {L L1 : SH} {ops : Array Oper} {rest : List Oper} {ty : TypeId} {pos : String} {af : Array Edge} {d t e m cx : Nat} {s y : Operand} {v : Value} {sp : List Value} {l ys : List UInt8} {a : Option Addr} [hS : ZY x.P t e] [hZ : ZS x.P e 1] [hB : ZC x.P e 1] [hz : ZD x.P e (.int .u8 0)]
  (hs : ev E s = some v) (hy : ev E y = some (.slice a m cx)) (h : OwnS v l.length (l.map ZE) sp 1) [hR : Rem (ZO v (l.map ZE) sp e) L L1] (hsrc : SrcV x ρ L1 a (ys.map ZE)) (hlen : ys.length = m)
  (hb : l.length + m ≤ 140737488355328) (hd : Nat.blt d x.N = true)
  (k : ∀ v' sp', OwnS v' (l ++ ys).length ((l ++ ys).map ZE) sp' 1 → TL x ops rest Q ((d, v') :: E) ρ (ZO v' ((l ++ ys).map ZE) sp' e :: L1)) :
  TL x ops (⟨some d, .call { callee := .builtin .append, args := #[s, y], argTypes := #[t, t] }, ty, pos, af, none⟩ :: rest) Q E ρ L :=
 Xv hs hy h hsrc (by simpa using hlen) (ZM ys) (by decide) rfl (by omega) (by omega) hd (fun v' sp' ho => by
  rw [← List.map_append] at ho ⊢
  exact k v' sp' (by rw [List.length_append, hlen]; exact ho))
theorem part_spec (ρ : Hp) (X : SH) (turn n : Nat) (a : Option Addr) (bn c : Nat) (b : Bs) (hb : Rd ρ X a bn b) (hc : bn ≤ c) (k : Nat) (ht : turn < 4294967296) (hn : n ≤ 1099511627776) (hbl : bn ≤ 8000) (hk : k < Zt bn) :
  Spec Try.prog 64 [.int .u64 turn, .int .u64 n, .slice a bn c, .int .i64 k] ρ X (fun v ρ' L' => v = bv (ZJ turn n b k) ∧ ρ' = ρ ∧ L' = X) := by
 have hl := hb.len
 have hkm : 52 * k ≤ bn := by unfold Zt at hk; omega
 have hk2 : k < 256 := by unfold Zt at hk; omega
 have hkb : Value.int .u8 (IntKind.u8.wrap (k : Int)) = ZE (UInt8.ofNat k) := u8_wrap k
 have hkb' : Value.int .u8 (k : Int) = ZE (UInt8.ofNat k) := by rw [← hkb, Xr (by simp only [lo, hi]; omega)]
 have hlo : (52 * (k : Int)).toNat = 52 * k := by omega
 have hhi : (min (52 * (k : Int) + 52) (bn : Int)).toNat - 52 * k = min 52 (bn - 52 * k) := by omega
 have htk : (b.drop (52 * k)).take (min 52 (bn - 52 * k)) = (b.drop (52 * k)).take 52 := by
  by_cases h : 52 ≤ bn - 52 * k
  ·rw [Nat.min_eq_left h]
  ·rw [Nat.min_eq_right (by omega), List.take_of_length_le (by simp; omega), List.take_of_length_le (by simp; omega)]
 have hfin : ∀ n2, pad (be 4 turn ++ be 5 n ++ be 2 n2 ++ [UInt8.ofNat k] ++ (b.drop (52 * k)).take (min 52 (bn - 52 * k))) = pad (be 4 turn ++ (be 5 n ++ (be 2 n2 ++ (UInt8.ofNat k :: (b.drop (52 * k)).take 52)))) := fun n2 => by rw [htk]; simp
 have hfin2 : pad (be 4 turn ++ be 5 n ++ be 2 bn ++ [UInt8.ofNat k] ++ (b.drop (52 * k)).take (min 52 (bn - 52 * k))) = ZJ turn n b k := by rw [hfin, ← hl]; rfl
 have hpl : ((ZJ turn n b k).map ZE).length = 64 := by simp [YF]
 have hp1 := ZM (ZJ turn n b k)
 refine Zd Try.func64 rfl rfl rfl fun u R => ?_
 simp only [Zw, List.cons_append, List.nil_append]
 repeat' (first | (refine Zb (.func 79) ?_; refine qC rfl rfl (put_nil _ turn 4 (by omega) (by omega) (by omega)) ?_; rintro v1 ρ' L' hle ⟨rfl, sp1, hown1, rfl⟩; simp only [List.cons_append, List.nil_append]) | (refine Zf ?_; first | (refine Ze ?_; refine qQ ?_) | refine Zk ?_) | refine Za ?_ | (refine Zg ?_; refine Zu ?_) | (refine Zh ?_; refine Zv ?_) | intro _)
 repeat' (first | (refine Zb (.func 79) ?_; refine qC rfl rfl (Xy _ hown1 n 5 (by omega) (by omega) (by omega) (by simp [Zs])) ?_; rintro v2 ρ2 L2 hle2 ⟨rfl, sp2, hown2, rfl⟩; simp only [List.cons_append, List.nil_append]) | (refine Zf ?_; first | (refine Ze ?_; refine qQ ?_) | refine Zk ?_) | refine Za ?_ | (refine Zg ?_; refine Zu ?_) | (refine Zh ?_; refine Zv ?_) | intro _)
 repeat' (first | (refine Zb (.func 79) ?_; refine qC rfl rfl (Xy _ hown2 bn 2 (by omega) (by omega) (by omega) (by simp [Zs])) ?_; rintro v3 ρ3 L3 hle3 ⟨rfl, sp3, hown3, rfl⟩; simp only [List.cons_append, List.nil_append]) | (refine Zf ?_; first | (refine Ze ?_; refine qQ ?_) | refine Zk ?_) | refine Za ?_ | (refine Zg ?_; refine Zu ?_) | (refine Zh ?_; refine Zv ?_) | intro _)
 refine ZA (Zo _ _ ([])) (Zn (hT := tk) (Hp.le_refl _)) ?_
 all_goals (refine ZL 0 ?_; refine ZL 1 ?_; refine rCv 2 ?_; refine ZL 5 ?_; refine ZL 6 ?_; refine ZL 7 ?_; refine rAd 8 ?_; refine ZL 9 ?_; refine rBi 10 ?_; refine rBi 11 ?_; refine rSl 12 ?_)
 all_goals (refine Zp (i := 3) ?_; ((try refine Zl ?_); (first | (refine Zq rfl rfl rfl rfl (by simp) rfl rfl (fun _ => ?_); simp only [hkb']) | (refine Zk ?_; try intro _)) <;> ((try simp only [kM, kN, kO]); refine Za ?_; refine Zm ?_)))
 all_goals (refine Zp (i := 4) ?_; ((try refine Zl ?_); (first | (refine ZR (ys := [UInt8.ofNat k]) (m := 1) rfl rfl hown3 (hR := by infer_instance) SrcV.lit rfl (by simp [Zs]) rfl (fun v4 sp4 hown4 => ?_)) | (simp only [hlo, hhi]; refine ZR (ys := (b.drop (52 * k)).take (min 52 (bn - 52 * k))) rfl rfl hown4 (hR := by infer_instance) (by rw [List.map_take, List.map_drop]; exact SrcV.sub (hb.src _ _ _ _ (Hp.le_refl _) tk) (by simp; omega) (by simpa [hl] using hc)) (by simp; omega) (by simp [Zs]; omega) rfl (fun v5 sp5 hown5 => ?_)) | (refine Zb (.func 80) ?_; refine qC rfl rfl (block_spec _ _ _ _ _ hown5) ?_; rintro v6 ρ6 L6 hle6 ⟨rfl, rfl, rfl⟩; simp only [List.cons_append, List.nil_append, hfin2]) | (refine Zk ?_; try intro _)) <;> ((try simp only [kM, kN, kO]); refine Za ?_; refine Zm ?_)))
 all_goals (refine Zp (i := 13) ?_; ((try refine Zl ?_); (first | (refine ZR (ys := [UInt8.ofNat k]) (m := 1) rfl rfl hown3 (hR := by infer_instance) SrcV.lit rfl (by simp [Zs]) rfl (fun v4 sp4 hown4 => ?_)) | (simp only [hlo, hhi]; refine ZR (ys := (b.drop (52 * k)).take (min 52 (bn - 52 * k))) rfl rfl hown4 (hR := by infer_instance) (by rw [List.map_take, List.map_drop]; exact SrcV.sub (hb.src _ _ _ _ (Hp.le_refl _) tk) (by simp; omega) (by simpa [hl] using hc)) (by simp; omega) (by simp [Zs]; omega) rfl (fun v5 sp5 hown5 => ?_)) | (refine Zb (.func 80) ?_; refine qC rfl rfl (block_spec _ _ _ _ _ hown5) ?_; rintro v6 ρ6 L6 hle6 ⟨rfl, rfl, rfl⟩; simp only [List.cons_append, List.nil_append, hfin2]) | (refine Zk ?_; try intro _)) <;> ((try simp only [kM, kN, kO]); refine Za ?_; refine Zm ?_)))
 all_goals (refine Zp (i := 14) ?_; ((try refine Zl ?_); (first | (refine Zb (.func 80) ?_; refine qC rfl rfl (block_spec _ _ _ _ _ hown5) ?_; rintro v6 ρ6 L6 hle6 ⟨rfl, rfl, rfl⟩; simp only [List.cons_append, List.nil_append, hfin2]) | (refine Zk ?_; try intro _)) <;> ((try simp only [kM, kN, kO]); refine Za ?_; refine Zm ?_)))
 all_goals (refine Zp (i := 15) ?_; ((try refine Zl ?_); (first | (refine Zk ?_; try intro _)) <;> ((try simp only [kM, kN, kO]); refine Za ?_; refine Zm ?_)))
 all_goals refine ZH ?_
 all_goals (repeat' (first | (refine Zf ?_; first | (refine Ze ?_; refine qQ ?_) | refine Zk ?_) | refine Za ?_ | (refine Zg ?_; refine Zu ?_) | (refine Zh ?_; refine Zv ?_) | intro _))
 all_goals exact qE ⟨rfl, rfl, rfl⟩
def Yu (s : Yz) (l : List (Nat × Blk)) : Yz := l.foldl (fun s p => putC s p.1 p.2) s
theorem Yq (l : List (Nat × Blk)) : ∀ (s : Yz), (Yu s l).length = s.length := by
 induction l with
 | nil => intro s; rfl
 | cons p r ih => intro s; simp only [Yu, List.foldl_cons] at ih ⊢; rw [ih, YN]
theorem putC_at {s : Yz} {j i : Nat} {b : Blk} (hi : i < s.length) (h' : i < (putC s j b).length) : (putC s j b)[i] = if j = i then (s[i].1, some b) else s[i] := by
 simp only [putC, List.getElem_set]
 by_cases e : j = i
 ·subst e; simp [hi]
 ·simp [e]
theorem putAll_at : ∀ (l : List (Nat × Blk)) (s : Yz) (i : Nat) (hi : i < s.length) (h' : i < (Yu s l).length), (Yu s l)[i] = s[i] ∧ (∀ p ∈ l, p.1 ≠ i) ∨ ∃ p ∈ l, p.1 = i ∧ (Yu s l)[i] = (s[i].1, some p.2)
 | [], s, i, hi, h' => .inl ⟨rfl, by simp⟩
 | p :: r, s, i, hi, h' => by
  have h1 : i < (putC s p.1 p.2).length := by rw [YN]; exact hi
  have hat := putC_at hi h1
  rcases putAll_at r (putC s p.1 p.2) i h1 (by rw [Yq]; exact h1) with ⟨e1, e2⟩ | ⟨q, hq, e1, e2⟩
  ·by_cases hp : p.1 = i
   ·rw [if_pos hp] at hat
    exact .inr ⟨p, by simp, hp, by rw [← hat, ← e1]; rfl⟩
   ·rw [if_neg hp] at hat
    refine .inl ⟨by rw [← hat, ← e1]; rfl, fun q hq => ?_⟩
    rcases List.mem_cons.1 hq with rfl | hq
    ·exact hp
    ·exact e2 q hq
  ·refine .inr ⟨q, by simp [hq], e1, ?_⟩
   have : (putC s p.1 p.2)[i].1 = s[i].1 := by rw [hat]; split <;> rfl
   rw [← this, ← e2]; rfl
theorem lays_out : ∀ (l : List (Nat × Blk)) (D : DS), D.dead = false → (∀ p ∈ l, p.1 < D.secs.length) →
  (∃ l', l' <+: l ∧ (DS.lays l D).1.secs = Yu D.secs l' ∧ (DS.lays l D).2 ≠ 0) ∨
  ((DS.lays l D).1.secs = settled (fun _ => true) (Yu D.secs l) ∧ (DS.lays l D).2 = 0 ∧ (DS.lays l D).1.dead = false)
 | [], D, hd, _ => by
  simp only [DS.lays, DS.sync, hd, Bool.false_eq_true, if_false]
  split
  ·exact .inl ⟨[], List.prefix_refl _, rfl, by simp⟩
  ·split
   ·exact .inl ⟨[], List.prefix_refl _, rfl, by simp⟩
   ·exact .inr ⟨rfl, rfl, hd⟩
 | p :: r, D, hd, hl => by
  have hp := hl p (by simp)
  have hlt : ¬ ((p.1 : Int) < 0 ∨ (D.secs.length : Int) ≤ p.1) := by omega
  unfold DS.lays
  by_cases ha : D.armed = 0
  ·have hw : D.write p.1 p.2 = ({ D.tick with dead := true, secs := putC D.secs p.1 p.2 }, 9) := by
    unfold DS.write
    rw [if_neg (by simp [hd]), if_neg hlt, if_pos ha]; rfl
   rw [hw]
   rw [if_neg (by simp)]
   exact .inl ⟨[p], ⟨r, rfl⟩, rfl, by simp⟩
  ·by_cases hf : D.failing = 0
   ·have hw : D.write p.1 p.2 = (D.tick, 8) := by
     unfold DS.write
     rw [if_neg (by simp [hd]), if_neg hlt, if_neg ha, if_pos hf]
    rw [hw]
    rw [if_neg (by simp)]
    exact .inl ⟨[], ⟨p :: r, rfl⟩, rfl, by simp⟩
   ·have hw : D.write p.1 p.2 = ({ D.tick with armed := cnt D.armed, secs := putC D.secs p.1 p.2 }, 0) := by
     unfold DS.write
     rw [if_neg (by simp [hd]), if_neg hlt, if_neg ha, if_neg hf]; rfl
    rw [hw, if_pos rfl]
    have ih := lays_out r { D.tick with armed := cnt D.armed, secs := putC D.secs p.1 p.2 } hd (fun q hq => by simp only [YN]; exact hl q (by simp [hq]))
    rcases ih with ⟨l', ⟨t, ht⟩, h2, h3⟩ | h
    ·exact .inl ⟨p :: l', ⟨t, by rw [← ht]; rfl⟩, h2, h3⟩
    ·exact .inr h
theorem Calm_lays : ∀ (l : List (Nat × Blk)) (D : DS), D.Calm → (∀ p ∈ l, p.1 < D.secs.length) → (DS.lays l D).2 = 0 ∧ (DS.lays l D).1.Calm ∧ (DS.lays l D).1.secs = settled (fun _ => true) (Yu D.secs l)
 | [], D, h, _ => by
  rw [DS.lays, h.sync_eq]
  exact ⟨rfl, ⟨rfl, rfl, rfl⟩, rfl⟩
 | p :: r, D, h, hl => by
  have hp := hl p (by simp)
  unfold DS.lays
  rw [h.write_eq hp, if_pos rfl]
  exact Calm_lays r _ ⟨rfl, rfl, rfl⟩ (fun q hq => by simp only [YN]; exact hl q (by simp [hq]))
theorem settled_one {keep : Nat → Bool} {s : Yz} {i : Nat} (he : XA s) (l : List (Nat × Blk)) (hi : i < s.length) (h' : i < (settled keep (Yu s l)).length) :
  (settled keep (Yu s l))[i] = s[i] ∨ ∃ p ∈ l, p.1 = i ∧ (settled keep (Yu s l))[i] = (p.2, none) := by
 have hp : i < (Yu s l).length := by rw [Yq]; exact hi
 have hn := he s[i] (List.getElem_mem hi)
 rw [settled_at hp h']
 rcases putAll_at l s i hi hp with ⟨e, _⟩ | ⟨p, hm, e1, e2⟩
 ·left
  have hip : isP (Yu s l) i = false := by simp [isP, hp, e, hn]
  rw [hip, e]
  simp only [Bool.false_and, Bool.false_eq_true, if_false]
  rw [← hn]
 ·have hip : isP (Yu s l) i = true := by simp [isP, hp, e2]
  rw [hip, e2]
  cases hk : keep (Ys (Yu s l) i).length with
  | false => left; simp [← hn]
  | true => right; exact ⟨p, hm, e1, by simp⟩
theorem settled_all {s : Yz} {i : Nat} (he : XA s) (l : List (Nat × Blk)) (hi : i < s.length) (h' : i < (settled (fun _ => true) (Yu s l)).length) :
  (settled (fun _ => true) (Yu s l))[i] = s[i] ∧ (∀ p ∈ l, p.1 ≠ i) ∨ ∃ p ∈ l, p.1 = i ∧ (settled (fun _ => true) (Yu s l))[i] = (p.2, none) := by
 have hp : i < (Yu s l).length := by rw [Yq]; exact hi
 have hn := he s[i] (List.getElem_mem hi)
 rw [settled_at hp h']
 rcases putAll_at l s i hi hp with ⟨e, h2⟩ | ⟨p, hm, e1, e2⟩
 ·left
  have hip : isP (Yu s l) i = false := by simp [isP, hp, e, hn]
  rw [hip, e]
  simp only [Bool.false_and, Bool.false_eq_true, if_false]
  exact ⟨by rw [← hn], h2⟩
 ·have hip : isP (Yu s l) i = true := by simp [isP, hp, e2]
  rw [hip, e2]
  right; exact ⟨p, hm, e1, by simp⟩
theorem mid {A B C : Bs} {n m : Nat} (hA : A.length = n) (hB : B.length = m) : ((A ++ (B ++ C)).drop n).take m = B := by
 subst hA; subst hB; rw [List.drop_left, List.take_left]
theorem fit52 (l : Bs) : Yi 52 l = l.take 52 ++ z8 (52 - l.length) := by
 unfold Yi z8
 rw [List.take_append, List.take_replicate]
 congr 2; omega
theorem pad_drop {x l : Bs} (hx : x.length = 12) (hl : l.length ≤ 52) : (pad (x ++ l)).drop 12 = Yi 52 l := by
 rw [pad_of (by simp; omega), ← hx, List.append_assoc, List.drop_left, fit52, List.take_of_length_le hl]
 congr 2; simp; omega
theorem partB_eq (t n : Nat) (b : Bs) (k : Nat) : ZJ t n b k = pad ((be 4 t ++ (be 5 n ++ (be 2 b.length ++ [UInt8.ofNat k]))) ++ (b.drop (52 * k)).take 52) := by
 unfold ZJ; simp
theorem partB_drop (t n : Nat) (b : Bs) (k : Nat) : (ZJ t n b k).drop 12 = Yi 52 (b.drop (52 * k)) := by
 rw [partB_eq, pad_drop (by simp [Zs]) (by simp; omega), fit52, fit52, List.take_take]
 congr 2
 simp; omega
theorem partB_congr {t n : Nat} {b c : Bs} {k : Nat} (hl : b.length = c.length) (h : (b.drop (52 * k)).take 52 = (c.drop (52 * k)).take 52) : ZJ t n b k = ZJ t n c k := by
 unfold ZJ; rw [hl, h]
theorem partB_turn {t n : Nat} {b : Bs} {k : Nat} (ht : t < 4294967296) : ZW (ZJ t n b k) = t := by
 have h : (ZJ t n b k).take 4 = be 4 t := by
  unfold ZJ pad
  rw [List.append_assoc, List.take_take, Nat.min_eq_left (by omega), List.take_left' (Zs 4 t)]
 unfold ZW
 rw [h, unbe_be, Nat.mod_eq_of_lt (by simpa using ht)]
theorem partB_num {t n : Nat} {b : Bs} {k : Nat} (hn : n < 1099511627776) : numOf (ZJ t n b k) = n := by
 have h : ((ZJ t n b k).drop 4).take 5 = be 5 n := by
  unfold ZJ pad
  rw [List.drop_take, List.take_take, Nat.min_eq_left (by omega)]
  simp only [List.append_assoc]
  exact mid (Zs 4 t) (Zs 5 n)
 unfold numOf
 rw [h, unbe_be, Nat.mod_eq_of_lt (by simpa using hn)]
theorem partB_size {t n : Nat} {b : Bs} {k : Nat} (hn : b.length < 65536) : Zz (ZJ t n b k) = b.length := by
 have h : ((ZJ t n b k).drop 9).take 2 = be 2 b.length := by
  unfold ZJ pad
  rw [List.drop_take, List.take_take, Nat.min_eq_left (by omega)]
  simp only [List.append_assoc]
  rw [← List.append_assoc (be 4 t)]
  exact mid (by simp [Zs]) (Zs 2 _)
 unfold Zz
 rw [h, unbe_be, Nat.mod_eq_of_lt (by simpa using hn)]
theorem sects_mul {n k : Nat} (h : k < Zt n) : 52 * k < n ∨ (k = 0 ∧ n = 0) := by unfold Zt at h; omega
theorem sects_end (n : Nat) : n ≤ 52 * Zt n := by unfold Zt; omega
theorem fit_step {size k : Nat} {b acc : Bs} (hb : b.length = size) (hk : k < Zt size) (hl : acc.length = 52 * k) (h : acc.take size = b.take (52 * k)) :
  (acc ++ Yi 52 (b.drop (52 * k))).take size = b.take (52 * (k + 1)) := by
 have hm : 52 * k ≤ size := by rcases sects_mul hk with h | h <;> omega
 have ha : acc = b.take (52 * k) := by rw [← h, List.take_of_length_le (by omega)]
 rw [List.take_append, List.take_of_length_le (by omega), hl, ha]
 by_cases h52 : 52 * (k + 1) ≤ size
 ·have e : Yi 52 (b.drop (52 * k)) = (b.drop (52 * k)).take 52 := by
   rw [fit52]
   have : 52 - (b.drop (52 * k)).length = 0 := by simp; omega
   rw [this]; simp [z8]
  rw [e, List.take_take, Nat.min_eq_right (by omega), Nat.mul_add, Nat.mul_one, List.take_add]
 ·have e : (Yi 52 (b.drop (52 * k))).take (size - 52 * k) = b.drop (52 * k) := by
   rw [fit52, List.take_of_length_le (l := b.drop (52 * k)) (by simp; omega), List.take_append_of_le_length (by simp; omega), List.take_of_length_le (by simp; omega)]
  rw [e, List.take_append_drop, List.take_of_length_le (by omega)]
theorem fit_of {size k : Nat} {b acc : Bs} (hb : b.length = size) (hl : acc.length = 52 * k) (h : acc.take size = b.take (52 * k)) : Yi size acc = b.take (52 * k) ++ z8 (size - 52 * k) := by
 unfold Yi z8
 rw [List.take_append, h, List.take_replicate, hl]
 congr 2; omega
theorem part_fit {t n size k : Nat} {b acc : Bs} (hb : b.length = size) (hl : acc.length = 52 * (k + 1)) (h : acc.take size = b.take (52 * (k + 1))) : ZJ t n (Yi size acc) k = ZJ t n b k := by
 refine partB_congr (by rw [YY, hb]) ?_
 rw [fit_of hb hl h]
 by_cases h52 : 52 * (k + 1) ≤ size
 ·rw [List.drop_append_of_le_length (by simp; omega), List.take_append_of_le_length (by simp; omega), List.drop_take, List.take_take]
  congr 1; omega
 ·have e : size - 52 * (k + 1) = 0 := by omega
  rw [e]
  simp only [z8, List.replicate_zero, List.append_nil]
  rw [List.drop_take, List.take_take]
  congr 1; omega
def entP (g : Nat → Blk) (m n at' turn size : Nat) : Nat → Nat → Bs → Option Bs
 | 0, _, acc => some (Yi size acc)
 | j + 1, k, acc => if ZJ turn n (Yi size (acc ++ (g (2 + (at' + k) % m)).drop 12)) k = g (2 + (at' + k) % m) then entP g m n at' turn size j (k + 1) (acc ++ (g (2 + (at' + k) % m)).drop 12) else none
theorem entP_some {g : Nat → Blk} {m n at' t size : Nat} {b : Bs} (hb : b.length = size) (hg : ∀ k, k < Zt size → g (2 + (at' + k) % m) = ZJ t n b k) :
  ∀ (j k : Nat) (acc : Bs), j + k = Zt size → acc.length = 52 * k → acc.take size = b.take (52 * k) → entP g m n at' t size j k acc = some b
 | 0, k, acc, hjk, hl, h => by
  have hk : k = Zt size := by omega
  have he := sects_end size
  subst hk
  rw [entP, fit_of hb hl h, List.take_of_length_le (by omega)]
  have e : size - 52 * Zt size = 0 := by omega
  rw [e]; simp [z8]
 | j + 1, k, acc, hjk, hl, h => by
  have hk : k < Zt size := by omega
  have hgk := hg k hk
  have hst := fit_step hb hk hl h
  have hl2 : (acc ++ (ZJ t n b k).drop 12).length = 52 * (k + 1) := by simp [YF, hl]; omega
  rw [entP, hgk, if_pos]
  ·exact entP_some hb hg j (k + 1) _ (by omega) hl2 (by rw [partB_drop]; exact hst)
  ·exact part_fit hb hl2 (by rw [partB_drop]; exact hst)
theorem entP_inv {g : Nat → Blk} {m n at' t size : Nat} {b : Bs} (hg64 : ∀ q, (g (2 + q % m)).length = 64) : ∀ (j k : Nat) (acc : Bs), j + k = Zt size → acc.length = 52 * k → entP g m n at' t size j k acc = some b →
  b.length = size ∧ acc.take size = b.take (52 * k) ∧ ∀ i, k ≤ i → i < Zt size → g (2 + (at' + i) % m) = ZJ t n b i
 | 0, k, acc, hjk, hl, h => by
  have hk : k = Zt size := by omega
  have he := sects_end size
  subst hk
  simp only [entP, Option.some.injEq] at h
  subst h
  refine ⟨YY _ _, ?_, fun i h1 h2 => by omega⟩
  have : Yi size acc = acc.take size := by
   unfold Yi; rw [List.take_append_of_le_length (by omega)]
  rw [this, List.take_take, Nat.min_eq_right (by omega)]
 | j + 1, k, acc, hjk, hl, h => by
  have hk : k < Zt size := by omega
  rw [entP] at h
  split at h
  ·rename_i hp
   have hl2 : (acc ++ (g (2 + (at' + k) % m)).drop 12).length = 52 * (k + 1) := by simp [hg64, hl]; omega
   obtain ⟨h1, h2, h3⟩ := entP_inv hg64 j (k + 1) _ (by omega) hl2 h
   have hm : 52 * k ≤ size := by rcases sects_mul hk with h | h <;> omega
   refine ⟨h1, ?_, fun i hi1 hi2 => ?_⟩
   ·have := congrArg (fun l : Bs => l.take (52 * k)) h2
    simp only [List.take_take] at this
    rw [Nat.min_eq_left hm, Nat.min_eq_left (by omega), List.take_append_of_le_length (by omega)] at this
    rw [← this, List.take_of_length_le (by omega), List.take_of_length_le (by omega)]
   ·by_cases e : i = k
    ·subst e; rw [← hp, part_fit h1 hl2 h2]
    ·exact h3 i (by omega) hi2
  ·cases h
def entP0 (g : Nat → Blk) (m T n at' left : Nat) : Option Bs :=
 if left = 0 then none
 else if ZW (g (2 + at' % m)) < 1 ∨ T < ZW (g (2 + at' % m)) ∨ 8000 < Zz (g (2 + at' % m)) ∨ left < Zt (Zz (g (2 + at' % m))) then none
 else entP g m n at' (ZW (g (2 + at' % m))) (Zz (g (2 + at' % m))) (Zt (Zz (g (2 + at' % m)))) 0 []
theorem entP0_some {g : Nat → Blk} {m T n at' left t : Nat} {b : Bs} (ht : 1 ≤ t ∧ t ≤ T) (hT : T < 4294967296) (hb : b.length ≤ 8000) (hleft : Zt b.length ≤ left) (hg : ∀ k, k < Zt b.length → g (2 + (at' + k) % m) = ZJ t n b k) :
  entP0 g m T n at' left = some b := by
 have hp := YI b.length
 have h0 := hg 0 (by omega)
 rw [Nat.add_zero] at h0
 unfold entP0
 rw [h0, partB_turn (by omega), partB_size (by omega), if_neg (by omega), if_neg (by omega)]
 exact entP_some rfl hg _ 0 [] (by omega) rfl (by simp)
theorem entP0_inv {g : Nat → Blk} {m T n at' left : Nat} {b : Bs} (hg64 : ∀ q, (g (2 + q % m)).length = 64) (h : entP0 g m T n at' left = some b) :
  ∃ t, 1 ≤ t ∧ t ≤ T ∧ b.length ≤ 8000 ∧ Zt b.length ≤ left ∧ ∀ k, k < Zt b.length → g (2 + (at' + k) % m) = ZJ t n b k := by
 unfold entP0 at h
 split at h
 ·cases h
 ·split at h
  ·cases h
  ·rename_i h1 h2
   obtain ⟨g1, g2, g3⟩ := entP_inv hg64 _ 0 [] (by omega) rfl h
   exact ⟨_, by omega, by omega, by omega, by rw [g1]; omega, fun k hk => g3 k (by omega) (by rw [← g1]; exact hk)⟩
def NoAt (g : Nat → Blk) (m pos n : Nat) : Prop := ∀ t b, 1 ≤ t → t ≤ 1073741824 → b.length ≤ 8000 → Zt b.length ≤ m → ∃ k, k < Zt b.length ∧ g (2 + (pos + k) % m) ≠ ZJ t n b k
theorem NoAt.scan {g : Nat → Blk} {m T n pos left : Nat} (h : NoAt g m pos n) (hg64 : ∀ q, (g (2 + q % m)).length = 64) (hl : left ≤ m) (hT : T ≤ 1073741824) : entP0 g m T n pos left = none := by
 cases he : entP0 g m T n pos left with
 | none => rfl
 | some b =>
  obtain ⟨t, h1, h2, h3, h4, h5⟩ := entP0_inv hg64 he
  obtain ⟨k, hk, hne⟩ := h t b h1 (by omega) h3 (by omega)
  exact absurd (h5 k hk) hne
def Has (g : Nat → Blk) (m T : Nat) : Nat → Nat → List Bs → Prop
 | _, _, [] => True
 | n, pos, b :: r => (∃ t, 1 ≤ t ∧ t ≤ T ∧ ∀ k, k < Zt b.length → g (2 + (pos + k) % m) = ZJ t n b k) ∧ Has g m T (n + 1) (pos + Zt b.length) r
theorem Has.frame {g g' : Nat → Blk} {m T : Nat} : ∀ {l : List Bs} {n pos pos' : Nat}, Has g m T n pos l → pos % m = pos' % m → (∀ j, j < ZB l → g' (2 + (pos + j) % m) = g (2 + (pos + j) % m)) → Has g' m T n pos' l
 | [], n, pos, pos', _, _, _ => trivial
 | b :: r, n, pos, pos', ⟨⟨t, h1, h2, h3⟩, h4⟩, hp, hg => by
  rw [Xd] at hg
  refine ⟨⟨t, h1, h2, fun k hk => ?_⟩, ?_⟩
  ·have e : (pos' + k) % m = (pos + k) % m := by rw [Nat.add_mod, ← hp, ← Nat.add_mod]
   rw [e, hg k (by omega), h3 k hk]
  ·refine h4.frame (by rw [Nat.add_mod, hp, ← Nat.add_mod]) (fun j hj => ?_)
   have := hg (Zt b.length + j) (by omega)
   rw [← Nat.add_assoc] at this; exact this
theorem Has.le {g : Nat → Blk} {m T T' : Nat} (hT : T ≤ T') : ∀ {l : List Bs} {n pos : Nat}, Has g m T n pos l → Has g m T' n pos l
 | [], _, _, _ => trivial
 | b :: r, n, pos, ⟨⟨t, h1, h2, h3⟩, h4⟩ => ⟨⟨t, h1, by omega, h3⟩, h4.le hT⟩
theorem Has.append {g : Nat → Blk} {m T : Nat} : ∀ {l l' : List Bs} {n pos : Nat}, Has g m T n pos l → Has g m T (n + l.length) (pos + ZB l) l' → Has g m T n pos (l ++ l')
 | [], l', n, pos, _, h => by simpa [ZB] using h
 | b :: r, l', n, pos, ⟨h1, h2⟩, h => by
  refine ⟨h1, h2.append ?_⟩
  rw [Xd] at h
  rw [show n + 1 + r.length = n + (b :: r).length by simp; omega, Nat.add_assoc]; exact h
theorem Has.drop {g : Nat → Blk} {m T : Nat} : ∀ {l : List Bs} {n pos : Nat} (i : Nat), Has g m T n pos l → i ≤ l.length → Has g m T (n + i) (pos + ZB (l.take i)) (l.drop i)
 | l, n, pos, 0, h, _ => by simpa [ZB] using h
 | [], n, pos, i + 1, h, hi => by simp at hi
 | b :: r, n, pos, i + 1, ⟨h1, h2⟩, hi => by
  have := h2.drop i (by simpa using hi)
  simp only [List.take_succ_cons, List.drop_succ_cons, Xd]
  rw [show n + (i + 1) = n + 1 + i by omega, ← Nat.add_assoc]; exact this
end Go.Proofs.E
