/- The law RingDoes. Part 10 of 17. -/
import Derived.Test.YtaacalchpindlaaO9
namespace Go.Proofs.E
open Go
set_option linter.unusedVariables false
set_option linter.unusedSimpArgs false
set_option linter.unusedSectionVars false
set_option maxRecDepth 4000
set_option maxHeartbeats 1000000
attribute [local irreducible] Yl TL TC TE Spec Xt R1 Hp.le EnvLe TS TR YS Zo
theorem counts04_spec (ρ : Hp) (a b : Blk) (ha : a.length = 64) (hb : b.length = 64) :
  Spec Try.prog 51 [bv a, bv b] ρ [] (fun v ρ' L' => ρ.le ρ' ∧ (∃ na nn nc, v = .tuple ⟨[.agg ⟨rhV (hOf (Yt a b)) na nn nc⟩, .bool (Yt a b).2]⟩ ∧ SIn ρ' ZE na nn (hOf (Yt a b)).note ∧ nn ≤ nc ∧ nn ≤ 32) ∧ L' = []) := by
 have hpa : (a.map ZE).length = 64 := by simpa using ha
 have hpb : (b.map ZE).length = 64 := by simpa using hb
 have hoa := ZM a
 have hob := ZM b
 have hra := fun ρ => read04_spec ρ a ha
 have hrb := fun ρ => read04_spec ρ b hb
 have hcb : Yt a b = if (Yr a).2 && (!(Yr b).2 || decide ((Yr b).1.turn ≤ (Yr a).1.turn)) then ((Yr a).1, true) else Yr b := rfl
 generalize Yt a b = CB at *
 generalize Yr a = RA at *
 generalize Yr b = RB at *
 obtain ⟨x, okx⟩ := RA
 obtain ⟨y, oky⟩ := RB
 dsimp only at hra hrb hcb
 refine Zd Try.func51 rfl rfl rfl fun u R => ?_
 simp only [Zw, List.cons_append, List.nil_append]
 have hOt : ∀ h : Hd, hOf (h, true) = h := fun h => rfl
 have hOff : ∀ h : Hd, hOf (h, false) = zHd := fun h => rfl
 cases okx with
 | false =>
  simp only [Bool.false_and, Bool.false_eq_true, if_false] at hcb
  subst hcb
  repeat' (first | (refine Zb (.func 69) ?_; refine qC rfl rfl ((hra _)) ?_; rintro v ρ' L' hle ⟨hl1, ⟨na1, nn1, nc1, rfl, hs1, hc1, hq1⟩, rfl⟩ <;> (try simp only [kM, kN, kO])) | (refine Zb (.func 69) ?_; refine qC rfl rfl ((hrb _)) ?_; rintro v ρ' L' hle ⟨hl2, ⟨na2, nn2, nc2, rfl, hs2, hc2, hq2⟩, rfl⟩ <;> (try simp only [kM, kN, kO])) | (refine ZV ?_; refine Zy (Zc rfl) rfl rfl ?_) | (refine Zf ?_; first | (refine Ze ?_; refine qQ ?_) | refine Zk ?_) | refine Za ?_ | (refine Zg ?_; refine Zu ?_) | (refine Zh ?_; refine Zv ?_) | intro _)
  have hfin := Hp.le_trans hl1 hl2
  exact qE (L' := []) (v := .tuple ⟨[.agg ⟨rhV (hOf (y, oky)) na2 nn2 nc2⟩, .bool oky]⟩) ⟨hfin, ⟨na2, nn2, nc2, rfl, hs2, hc2, hq2⟩, rfl⟩
 | true =>
  cases oky with
  | false =>
   simp only [Bool.true_and, Bool.not_false, Bool.true_or, if_true] at hcb
   subst hcb
   repeat' (first | (refine Zb (.func 69) ?_; refine qC rfl rfl ((hra _)) ?_; rintro v ρ' L' hle ⟨hl1, ⟨na1, nn1, nc1, rfl, hs1, hc1, hq1⟩, rfl⟩ <;> (try simp only [kM, kN, kO])) | (refine Zb (.func 69) ?_; refine qC rfl rfl ((hrb _)) ?_; rintro v ρ' L' hle ⟨hl2, ⟨na2, nn2, nc2, rfl, hs2, hc2, hq2⟩, rfl⟩ <;> (try simp only [kM, kN, kO])) | (refine ZV ?_; refine Zy (Zc rfl) rfl rfl ?_) | (refine Zf ?_; first | (refine Ze ?_; refine qQ ?_) | refine Zk ?_) | refine Za ?_ | (refine Zg ?_; refine Zu ?_) | (refine Zh ?_; refine Zv ?_) | intro _)
   have hfin := Hp.le_trans hl1 hl2
   exact qE (L' := []) (v := .tuple ⟨[.agg ⟨rhV (hOf (x, true)) na1 nn1 nc1⟩, .bool true]⟩) ⟨hfin, ⟨na1, nn1, nc1, rfl, hs1.mono hl2, hc1, hq1⟩, rfl⟩
  | true =>
   by_cases ht : y.turn ≤ x.turn
   ·simp only [Bool.true_and, Bool.not_true, Bool.false_or, decide_eq_true ht, if_true] at hcb
    subst hcb
    simp only [hOt] at hra hrb
    repeat' (first | (refine Zb (.func 69) ?_; refine qC rfl rfl ((hra _)) ?_; rintro v ρ' L' hle ⟨hl1, ⟨na1, nn1, nc1, rfl, hs1, hc1, hq1⟩, rfl⟩ <;> (try simp only [kM, kN, kO])) | (refine Zb (.func 69) ?_; refine qC rfl rfl ((hrb _)) ?_; rintro v ρ' L' hle ⟨hl2, ⟨na2, nn2, nc2, rfl, hs2, hc2, hq2⟩, rfl⟩ <;> (try simp only [kM, kN, kO])) | (refine ZV ?_; refine Zy (Zc rfl) rfl rfl ?_) | (refine Zf ?_; first | (refine Ze ?_; refine qQ ?_) | refine Zk ?_) | refine Za ?_ | (refine Zg ?_; refine Zu ?_) | (refine Zh ?_; refine Zv ?_) | intro _)
    have hfin := Hp.le_trans hl1 hl2
    exact qE (L' := []) (v := .tuple ⟨[.agg ⟨rhV (hOf (x, true)) na1 nn1 nc1⟩, .bool true]⟩) ⟨hfin, ⟨na1, nn1, nc1, rfl, hs1.mono hl2, hc1, hq1⟩, rfl⟩
   ·simp only [Bool.true_and, Bool.not_true, Bool.false_or, decide_eq_false ht, Bool.false_eq_true, if_false] at hcb
    subst hcb
    simp only [hOt] at hra hrb
    repeat' (first | (refine Zb (.func 69) ?_; refine qC rfl rfl ((hra _)) ?_; rintro v ρ' L' hle ⟨hl1, ⟨na1, nn1, nc1, rfl, hs1, hc1, hq1⟩, rfl⟩ <;> (try simp only [kM, kN, kO])) | (refine Zb (.func 69) ?_; refine qC rfl rfl ((hrb _)) ?_; rintro v ρ' L' hle ⟨hl2, ⟨na2, nn2, nc2, rfl, hs2, hc2, hq2⟩, rfl⟩ <;> (try simp only [kM, kN, kO])) | (refine ZV ?_; refine Zy (Zc rfl) rfl rfl ?_) | (refine Zf ?_; first | (refine Ze ?_; refine qQ ?_) | refine Zk ?_) | refine Za ?_ | (refine Zg ?_; refine Zu ?_) | (refine Zh ?_; refine Zv ?_) | intro _)
    have hfin := Hp.le_trans hl1 hl2
    exact qE (L' := []) (v := .tuple ⟨[.agg ⟨rhV (hOf (y, true)) na2 nn2 nc2⟩, .bool true]⟩) ⟨hfin, ⟨na2, nn2, nc2, rfl, hs2, hc2, hq2⟩, rfl⟩
def cntn (D : DS) (i : Nat) : Blk := says1 (D.secs[i]?.getD (Yv, none))
theorem cntn_same {D D' : DS} (h : D'.secs = D.secs) (i : Nat) : cntn D' i = cntn D i := by unfold cntn; rw [h]
theorem read_cntn {D : DS} {i : Nat} (h : (D.read (i : Int)).2.2 = 0) : (D.read (i : Int)).2.1 = cntn D i := by
 unfold DS.read at h ⊢
 by_cases h1 : D.dead = true
 ·rw [if_pos h1] at h; exact absurd h (show ¬ (9 : Int) = 0 by decide)
 ·rw [if_neg h1] at h ⊢
  by_cases h2 : (i : Int) < 0 ∨ (D.secs.length : Int) ≤ i
  ·rw [if_pos h2] at h; exact absurd h (show ¬ (2 : Int) = 0 by decide)
  ·rw [if_neg h2] at h ⊢
   by_cases h3 : D.failing = 0
   ·rw [if_pos h3] at h; exact absurd h (show ¬ (8 : Int) = 0 by decide)
   ·rw [if_neg h3]; rfl
def Ya : List Nat → DS → DS × Int
 | [], D => (D, 0)
 | i :: r, D => if (D.read ((2 + i : Nat) : Int)).2.2 = 0 then Ya r (D.read ((2 + i : Nat) : Int)).1 else ((D.read ((2 + i : Nat) : Int)).1, (D.read ((2 + i : Nat) : Int)).2.2)
theorem XB {i : Nat} {r : List Nat} {D : DS} (h : (D.read ((2 + i : Nat) : Int)).2.2 = 0) : Ya (i :: r) D = Ya r (D.read ((2 + i : Nat) : Int)).1 := by rw [Ya, if_pos h]
theorem readAll_no {i : Nat} {r : List Nat} {D : DS} (h : ¬ (D.read ((2 + i : Nat) : Int)).2.2 = 0) : Ya (i :: r) D = ((D.read ((2 + i : Nat) : Int)).1, (D.read ((2 + i : Nat) : Int)).2.2) := by rw [Ya, if_neg h]
theorem readAll_secs : ∀ (l : List Nat) (D : DS), (Ya l D).1.secs = D.secs
 | [], D => rfl
 | i :: r, D => by
  unfold Ya
  split
  ·rw [readAll_secs r]; exact XF _
  ·exact XF _
theorem readAll_append : ∀ (l m : List Nat) (D : DS), Ya (l ++ m) D = if (Ya l D).2 = 0 then Ya m (Ya l D).1 else Ya l D
 | [], m, D => by simp [Ya]
 | i :: r, m, D => by
  rw [List.cons_append]
  by_cases h : (D.read ((2 + i : Nat) : Int)).2.2 = 0
  ·rw [XB h, XB h, readAll_append r m]
  ·rw [readAll_no h, readAll_no h]
   dsimp only
   rw [if_neg h]
def XM (h : Hd) (f : Nat → Blk) (n at' turn size : Nat) : Nat → Nat → Bs → Option Bs × Nat
 | 0, _, acc => (some (Yi size acc), 0)
 | j + 1, k, acc =>
  if ZJ turn n (Yi size (acc ++ (f ((at' + k) % h.size)).drop 12)) k = f ((at' + k) % h.size) then
   ((XM h f n at' turn size j (k + 1) (acc ++ (f ((at' + k) % h.size)).drop 12)).1, (XM h f n at' turn size j (k + 1) (acc ++ (f ((at' + k) % h.size)).drop 12)).2 + 1)
  else (none, 1)
def Xw (h : Hd) (left : Nat) (s : Blk) : Prop := ZW s < 1 ∨ h.turn < ZW s ∨ 8000 < Zz s ∨ left < Zt (Zz s)
instance (h : Hd) (left : Nat) (s : Blk) : Decidable (Xw h left s) := by unfold Xw; infer_instance
def YR (h : Hd) (f : Nat → Blk) (n at' left : Nat) : Option Bs × Nat :=
 if left = 0 then (none, 0)
 else if Xw h left (f (at' % h.size)) then (none, 1)
 else XM h f n at' (ZW (f (at' % h.size))) (Zz (f (at' % h.size))) (Zt (Zz (f (at' % h.size)))) 0 []
def askL (h : Hd) (at' a : Nat) : List Nat := (List.range a).map fun i => (at' + i) % h.size
def Yx (h : Hd) (f : Nat → Blk) : Nat → List Bs → List Nat → List Bs × List Nat
 | 0, es, ask => (es, ask)
 | g + 1, es, ask =>
  if h.first + es.length < 1099511627776 then
   match YR h f (h.first + es.length) (h.place + ZB es) (h.size - ZB es) with
   | (some b, a) => Yx h f g (es ++ [b]) (ask ++ askL h (h.place + ZB es) a)
   | (none, a) => (es, ask ++ askL h (h.place + ZB es) a)
  else (es, ask)
theorem askL_succ (h : Hd) (at' a k : Nat) : (List.range (a + 1)).map (fun i => (at' + k + i) % h.size) = ((at' + k) % h.size) :: (List.range a).map (fun i => (at' + (k + 1) + i) % h.size) := by
 rw [List.range_succ_eq_map, List.map_cons, List.map_map]
 congr 1
 apply List.map_congr_left
 intro i _
 simp only [Function.comp]
 congr 1; omega
theorem ent_law (h : Hd) (f : Nat → Blk) (n at' turn size : Nat) : ∀ (j k : Nat) (acc : Bs) (D : DS), (∀ i, f i = cntn D (2 + i)) →
  (entGo h n at' turn size j k acc D).2 = Ya ((List.range (XM h f n at' turn size j k acc).2).map fun i => (at' + k + i) % h.size) D ∧
  (entGo h n at' turn size j k acc D).1 = if (Ya ((List.range (XM h f n at' turn size j k acc).2).map fun i => (at' + k + i) % h.size) D).2 = 0 then (XM h f n at' turn size j k acc).1 else none
 | 0, k, acc, D, _ => by simp [entGo, XM, Ya]
 | j + 1, k, acc, D, hf => by
  unfold entGo XM
  have hfk := hf ((at' + k) % h.size)
  by_cases hr : (D.read ((2 + (at' + k) % h.size : Nat) : Int)).2.2 = 0
  ·have hc := read_cntn hr
   rw [← hfk] at hc
   rw [if_neg (by simpa using hr), hc]
   by_cases hp : ZJ turn n (Yi size (acc ++ (f ((at' + k) % h.size)).drop 12)) k = f ((at' + k) % h.size)
   ·rw [if_pos hp, if_pos hp]
    have hf' : ∀ i, f i = cntn (D.read ((2 + (at' + k) % h.size : Nat) : Int)).1 (2 + i) := fun i => by rw [cntn_same (XF _)]; exact hf i
    obtain ⟨e1, e2⟩ := ent_law h f n at' turn size j (k + 1) (acc ++ (f ((at' + k) % h.size)).drop 12) _ hf'
    dsimp only
    rw [askL_succ, XB hr]
    exact ⟨e1, e2⟩
   ·rw [if_neg hp, if_neg hp]
    dsimp only
    have h1 := askL_succ h at' 0 k
    rw [Nat.zero_add] at h1
    rw [h1, XB hr]
    exact ⟨rfl, by simp [Ya]⟩
  ·rw [if_pos hr]
   have : ∃ a, (if ZJ turn n (Yi size (acc ++ (f ((at' + k) % h.size)).drop 12)) k = f ((at' + k) % h.size) then
   ((XM h f n at' turn size j (k + 1) (acc ++ (f ((at' + k) % h.size)).drop 12)).1, (XM h f n at' turn size j (k + 1) (acc ++ (f ((at' + k) % h.size)).drop 12)).2 + 1)
  else ((none : Option Bs), 1)).2 = a + 1 := by
    split
    ·exact ⟨_, rfl⟩
    ·exact ⟨0, rfl⟩
   obtain ⟨a, ha⟩ := this
   rw [ha, askL_succ, readAll_no hr]
   exact ⟨rfl, by rw [if_neg hr]⟩
theorem entry_law (h : Hd) (f : Nat → Blk) (n at' left : Nat) (D : DS) (hf : ∀ i, f i = cntn D (2 + i)) :
  (Xm h n at' left D).2 = Ya (askL h at' (YR h f n at' left).2) D ∧
  (Xm h n at' left D).1 = if (Ya (askL h at' (YR h f n at' left).2) D).2 = 0 then (YR h f n at' left).1 else none := by
 unfold Xm YR
 by_cases h0 : left = 0
 ·rw [if_pos h0, if_pos h0]
  simp [askL, Ya]
 ·rw [if_neg h0, if_neg h0]
  have hfk := hf (at' % h.size)
  have hask : ∀ a, askL h at' a = (List.range a).map fun i => (at' + 0 + i) % h.size := fun a => rfl
  by_cases hr : (D.read ((2 + at' % h.size : Nat) : Int)).2.2 = 0
  ·have hc := read_cntn hr
   rw [← hfk] at hc
   rw [if_neg (by simpa using hr), hc]
   unfold entGo0
   by_cases hb : Xw h left (f (at' % h.size))
   ·rw [if_pos hb]
    unfold Xw at hb
    rw [if_pos hb]
    have h1 := askL_succ h at' 0 0
    rw [Nat.zero_add] at h1
    rw [hask, h1, show (at' + 0) % h.size = at' % h.size from rfl, XB hr]
    exact ⟨rfl, by simp [Ya]⟩
   ·rw [if_neg hb]
    unfold Xw at hb
    rw [if_neg hb]
    have hsp := YI (Zz (f (at' % h.size)))
    obtain ⟨j, hj⟩ : ∃ j, Zt (Zz (f (at' % h.size))) = j + 1 := ⟨Zt (Zz (f (at' % h.size))) - 1, by omega⟩
    rw [hj, Nat.add_sub_cancel]
    have hat0 : (at' + 0) % h.size = at' % h.size := rfl
    unfold XM
    rw [hat0, List.nil_append]
    by_cases hp : ZJ (ZW (f (at' % h.size))) n (Yi (Zz (f (at' % h.size))) ((f (at' % h.size)).drop 12)) 0 = f (at' % h.size)
    ·rw [if_pos hp, if_pos hp]
     have hf' : ∀ i, f i = cntn (D.read ((2 + at' % h.size : Nat) : Int)).1 (2 + i) := fun i => by rw [cntn_same (XF _)]; exact hf i
     obtain ⟨e1, e2⟩ := ent_law h f n at' (ZW (f (at' % h.size))) (Zz (f (at' % h.size))) j (0 + 1) ((f (at' % h.size)).drop 12) _ hf'
     dsimp only
     rw [hask, askL_succ, hat0, XB hr]
     exact ⟨e1, e2⟩
    ·rw [if_neg hp, if_neg hp]
     dsimp only
     have h1 := askL_succ h at' 0 0
     rw [Nat.zero_add] at h1
     rw [hask, h1, hat0, XB hr]
     exact ⟨rfl, by simp [Ya]⟩
  ·rw [if_pos hr]
   have : ∃ a, (if Xw h left (f (at' % h.size)) then ((none : Option Bs), 1) else XM h f n at' (ZW (f (at' % h.size))) (Zz (f (at' % h.size))) (Zt (Zz (f (at' % h.size)))) 0 []).2 = a + 1 := by
    split
    ·exact ⟨0, rfl⟩
    ·have hsp := YI (Zz (f (at' % h.size)))
     obtain ⟨j, hj⟩ : ∃ j, Zt (Zz (f (at' % h.size))) = j + 1 := ⟨Zt (Zz (f (at' % h.size))) - 1, by omega⟩
     rw [hj]
     unfold XM
     split
     ·exact ⟨_, rfl⟩
     ·exact ⟨0, rfl⟩
   obtain ⟨a, ha⟩ := this
   rw [ha, hask, askL_succ, show (at' + 0) % h.size = at' % h.size from rfl, readAll_no hr]
   exact ⟨rfl, by rw [if_neg hr]⟩
theorem saysGo_ask (h : Hd) (f : Nat → Blk) : ∀ (g : Nat) (es : List Bs) (ask : List Nat), Yx h f g es ask = ((Yx h f g es []).1, ask ++ (Yx h f g es []).2)
 | 0, es, ask => by simp [Yx]
 | g + 1, es, ask => by
  unfold Yx
  split
  ·split
   ·rw [saysGo_ask h f g _ (ask ++ _), saysGo_ask h f g _ ([] ++ _)]
    simp
   ·simp
  ·simp
theorem found_law (f : Nat → Blk) : ∀ (g : Nat) (R : RgS) (D : DS), (∀ i, f i = cntn D (2 + i)) → R.used = ZB R.ents →
  (Yh g R D).2 = Ya (Yx R.h f g R.ents []).2 D ∧
  ((Ya (Yx R.h f g R.ents []).2 D).2 = 0 → (Yh g R D).1 = { R with ents := (Yx R.h f g R.ents []).1, used := ZB (Yx R.h f g R.ents []).1 })
 | 0, R, D, _, hu => by
  refine ⟨by simp [Yh, Yx, Ya], fun _ => ?_⟩
  simp only [Yh, Yx]
  rw [← hu]
 | g + 1, R, D, hf, hu => by
  unfold Yh Yx
  have hnx : R.next = R.h.first + R.ents.length := rfl
  by_cases h1 : R.h.first + R.ents.length < 1099511627776
  ·rw [if_pos (by rw [hnx]; exact h1), if_pos h1]
   obtain ⟨e1, e2⟩ := entry_law R.h f R.next (R.h.place + R.used) (R.h.size - R.used) D hf
   rw [hnx, hu] at e1 e2 ⊢
   generalize hE : YR R.h f (R.h.first + R.ents.length) (R.h.place + ZB R.ents) (R.h.size - ZB R.ents) = E at *
   generalize hF : Xm R.h (R.h.first + R.ents.length) (R.h.place + ZB R.ents) (R.h.size - ZB R.ents) D = F at *
   obtain ⟨o, a⟩ := E
   obtain ⟨p, D', e⟩ := F
   dsimp only at e1 e2
   by_cases hz : (Ya (askL R.h (R.h.place + ZB R.ents) a) D).2 = 0
   ·rw [if_pos hz] at e2
    subst e2
    have he : e = 0 := by rw [← hz, ← e1]
    cases p with
    | none =>
     dsimp only
     rw [List.nil_append]
     refine ⟨e1, fun _ => ?_⟩
     rw [← hu]
    | some b =>
     dsimp only
     rw [if_pos he]
     have hD' : D' = (Ya (askL R.h (R.h.place + ZB R.ents) a) D).1 := by rw [← e1]
     have hf' : ∀ i, f i = cntn D' (2 + i) := fun i => by rw [hD', cntn_same (readAll_secs _ _)]; exact hf i
     obtain ⟨i1, i2⟩ := found_law f g (R.adds b) D' hf' (by simp [RgS.adds, YO, Xd, hu, ZB])
     have hA : (R.adds b).h = R.h := rfl
     have hB : (R.adds b).ents = R.ents ++ [b] := rfl
     rw [hA, hB] at i1 i2
     rw [saysGo_ask, List.nil_append]
     dsimp only
     rw [readAll_append, if_pos hz, ← hD']
     exact ⟨i1, fun h0 => by rw [i2 h0]; rfl⟩
   ·rw [if_neg hz] at e2
    subst e2
    have he : ¬ e = 0 := by
     have : e = (Ya (askL R.h (R.h.place + ZB R.ents) a) D).2 := by rw [← e1]
     rw [this]; exact hz
    dsimp only
    have hrest : ∃ r, (match ((o, a) : Option Bs × Nat) with
      | (some b, a) => Yx R.h f g (R.ents ++ [b]) ([] ++ askL R.h (R.h.place + ZB R.ents) a)
      | (none, a) => (R.ents, [] ++ askL R.h (R.h.place + ZB R.ents) a)).2 = askL R.h (R.h.place + ZB R.ents) a ++ r := by
     cases o with
     | none => exact ⟨[], by simp⟩
     | some b => exact ⟨(Yx R.h f g (R.ents ++ [b]) []).2, by dsimp only; rw [saysGo_ask]; simp⟩
    obtain ⟨r, hr⟩ := hrest
    rw [hr, readAll_append, if_neg hz]
    exact ⟨e1, fun h0 => absurd h0 hz⟩
  ·rw [if_neg (by rw [hnx]; exact h1), if_neg h1]
   refine ⟨by simp [Ya], fun _ => ?_⟩
   rw [← hu]
theorem F_at {F : List Blk} {i : Nat} (hi : i < F.length) : F[i] = F[i]?.getD Yv := by rw [List.getElem?_eq_getElem hi]; rfl
theorem Rd.take {ρ : Hp} {X : SH} {a : Option Addr} {n m : Nat} {l : Bs} (h : Rd ρ X a n l) (hm : m ≤ n) : Rd ρ X a m (l.take m) := by
 have hl := h.len
 refine ⟨by simp; omega, fun x ρ' L R hle hT => ?_⟩
 rcases h.src x ρ' L R hle hT with h0 | ⟨b, off, e, hs⟩
 ·left
  rw [List.map_take, h0]; simp
 ·refine .inr ⟨b, off, e, fun w hw j c hj => hs w hw j c ?_⟩
  rw [List.map_take] at hj
  have hlt : j < m := by
   have := (List.getElem?_eq_some_iff.1 hj).1
   simp at this; omega
  rwa [List.getElem?_take_of_lt hlt] at hj
theorem entry04_spec (ρ : Hp) (h : Hd) (na : Option Addr) (nn nc : Nat) (hsz : 0 < h.size) (hsz2 : h.size ≤ 1000) (ht : h.turn ≤ 1073741824) (a : Option Addr) (c : Nat) (F : List Blk) (hF : AIn ρ 64 (fun b : Blk => b.map ZE) a h.size F) (h64 : ∀ b ∈ F, b.length = 64) (n at' left : Nat) (hn : n ≤ 1099511627776) (hat : at' ≤ 1000000) (hlf : left ≤ 1000) :
  Spec Try.prog 70 [.agg ⟨rhV h na nn nc⟩, .slice a h.size c, .int .u64 n, .int .i64 at', .int .i64 left] ρ [] (fun v ρ' L' => ρ.le ρ' ∧ (∃ e : BSl, v = .tuple ⟨[slv e, .int .i64 ((YR h (fun i => F[i]?.getD Yv) n at' left).2 : Nat), .bool (YR h (fun i => F[i]?.getD Yv) n at' left).1.isSome]⟩ ∧ BIn ρ' e ∧ ∀ b, (YR h (fun i => F[i]?.getD Yv) n at' left).1 = some b → e.l = b) ∧ L' = []) := by
 have hFl := hF.len
 by_cases hl0 : left = 0
 ·have he : YR h (fun i => F[i]?.getD Yv) n at' left = (none, 0) := by unfold YR; rw [if_pos hl0]
  rw [he]
  refine Zd Try.func70 rfl rfl rfl fun u R0 => ?_
  simp only [Zw, List.cons_append, List.nil_append]
  repeat' (first | (refine ZV ?_; refine Zy (Zc rfl) rfl rfl ?_) | (refine Zf ?_; first | (refine Ze ?_; refine qQ ?_) | refine Zk ?_) | refine Za ?_ | (refine Zg ?_; refine Zu ?_) | (refine Zh ?_; refine Zv ?_) | intro _)
  exact qE (L' := []) ⟨Hp.le_refl _, ⟨⟨none, 0, 0, []⟩, rfl, ⟨SIn.nil, Nat.le_refl _⟩, fun b hb => by simp at hb⟩, rfl⟩
 ·refine Zd Try.func70 rfl rfl rfl fun u R0 => ?_
  simp only [Zw, List.cons_append, List.nil_append]
  have hE : YR h (fun i => F[i]?.getD Yv) n at' left = if Xw h left (F[at' % h.size]?.getD Yv) then (none, 1) else XM h (fun i => F[i]?.getD Yv) n at' (ZW (F[at' % h.size]?.getD Yv)) (Zz (F[at' % h.size]?.getD Yv)) (Zt (Zz (F[at' % h.size]?.getD Yv))) 0 [] := by unfold YR; rw [if_neg hl0]
  have hrm : ∀ k0 : Nat, ((at' : Int) + (k0 : Int)).tmod (h.size : Int) = (((at' + k0) % h.size : Nat) : Int) := fun k0 => by
   rw [Int.tmod_eq_emod_of_nonneg (by omega), Int.natCast_emod, Int.natCast_add]
  have hrm0 : ((at' : Int)).tmod (h.size : Int) = ((at' % h.size : Nat) : Int) := by
   rw [Int.tmod_eq_emod_of_nonneg (by omega), Int.natCast_emod]
  have hml := Nat.mod_lt at' hsz
  obtain ⟨b, off, C, T, fr, rfl, hb, hb5, hcd⟩ := hF.get (show at' % h.size < F.length by omega)
  have hs64 := h64 _ (List.getElem_mem (show at' % h.size < F.length by omega))
  rw [F_at] at hcd hs64
  generalize YR h (fun i => F[i]?.getD Yv) n at' left = E at *
  generalize hs : F[at' % h.size]?.getD Yv = s at *
  have hpl : (s.map ZE).length = 64 := by simpa using hs64
  have hp1 := ZM s
  repeat' (first | (refine ZV ?_; refine Zy (Zc rfl) rfl rfl ?_) | (refine Zf ?_; first | (refine Ze ?_; refine qQ ?_) | refine Zk ?_) | refine Za ?_ | (refine Zg ?_; refine Zu ?_) | (refine Zh ?_; refine Zv ?_) | intro _)
  rw [hrm0]
  repeat' (first | (refine ZV ?_; refine Zy (Zc rfl) rfl rfl ?_) | (refine Zf ?_; first | (refine Ze ?_; refine qQ ?_) | refine Zk ?_) | refine Za ?_ | (refine Zg ?_; refine Zu ?_) | (refine Zh ?_; refine Zv ?_) | intro _)
  rename_i b5 b13
  refine YZ [(b13, .cells ⟨s.map ZE⟩ 48 (0, 0))] (fun ρ3 hle3 hfz => ?_)
  have hbs := hfz _ (List.mem_singleton.2 rfl)
  dsimp only at hbs
  have hs4 : SIn ρ3 ZE (some ⟨b13, 0, none⟩) 4 (s.take 4) := by have := Yy hbs 0 4 (by omega); rwa [List.drop_zero] at this
  have hs2 : SIn ρ3 ZE (some ⟨b13, 9, none⟩) 2 ((s.drop 9).take 2) := Yy hbs 9 2 (by omega)
  have hn4 := Xh ρ3 (some ⟨b13, 0, none⟩) 4 64 _ hs4 (by omega)
  have hn2 := Xh ρ3 (some ⟨b13, 9, none⟩) 2 55 _ hs2 (by omega)
  have hb4 : ZW s < 4294967296 := by have := Xl (s.take 4); rw [show (s.take 4).length = 4 by simp; omega] at this; exact this
  have hb2 : Zz s < 65536 := by have := Xl ((s.drop 9).take 2); rw [show ((s.drop 9).take 2).length = 2 by simp; omega] at this; exact this
  change Spec _ _ _ _ _ (fun v ρ' L' => v = .int .u64 (ZW s : Nat) ∧ ρ' = ρ3 ∧ L' = []) at hn4
  change Spec _ _ _ _ _ (fun v ρ' L' => v = .int .u64 (Zz s : Nat) ∧ ρ' = ρ3 ∧ L' = []) at hn2
  have hEB : Xw h left s ↔ (ZW s < 1 ∨ h.turn < ZW s ∨ 8000 < Zz s ∨ left < Zt (Zz s)) := Iff.rfl
  generalize ZW s = turn at *
  generalize Zz s = size at *
  refine ZA (Zo _ _ ([])) (Zn (hT := tk) (Hp.le_refl _)) ?_
  all_goals (refine rSl 0 ?_; refine rSl 2 ?_)
  all_goals (refine Zp (i := 1) ?_; ((try refine Zl ?_); (first | (refine Zb (.func 82) ?_; refine qC rfl rfl (hn4) ?_; rintro v ρ' L' hle ⟨rfl, rfl, rfl⟩ <;> (try simp only [kM, kN, kO])) | (refine Zb (.func 82) ?_; refine qC rfl rfl (hn2) ?_; rintro v ρ' L' hle ⟨rfl, rfl, rfl⟩ <;> (try simp only [kM, kN, kO])) | (refine Zk ?_; try intro _)) <;> ((try simp only [kM, kN, kO]); refine Za ?_; refine Zm ?_)))
  all_goals (refine Zp (i := 3) ?_; ((try refine Zl ?_); (first | (refine Zb (.func 82) ?_; refine qC rfl rfl (hn4) ?_; rintro v ρ' L' hle ⟨rfl, rfl, rfl⟩ <;> (try simp only [kM, kN, kO])) | (refine Zb (.func 82) ?_; refine qC rfl rfl (hn2) ?_; rintro v ρ' L' hle ⟨rfl, rfl, rfl⟩ <;> (try simp only [kM, kN, kO])) | (refine Zk ?_; try intro _)) <;> ((try simp only [kM, kN, kO]); refine Za ?_; refine Zm ?_)))
  all_goals (refine ZN ?_; refine rCv 4 ?_; refine rAs 5 ?_; refine rAs 6 ?_; refine ZH ?_)
  all_goals have hss := XG ρ' size (by omega)
  by_cases hbad : turn < 1 ∨ h.turn < turn ∨ 8000 < size ∨ left < Zt size
  ·have hEb : E = (none, 1) := by rw [hE, if_pos (hEB.2 hbad)]
   by_cases h1 : turn < 1
   ·repeat' (first | (refine Zb (.func 55) ?_; refine qC rfl rfl (hss) ?_; rintro v ρ' L' hle ⟨rfl, rfl, rfl⟩ <;> (try simp only [kM, kN, kO])) | (refine ZV ?_; refine Zy (Zc rfl) rfl rfl ?_) | (refine Zf ?_; first | (refine Ze ?_; refine qQ ?_) | refine Zk ?_) | refine Za ?_ | (refine Zg ?_; refine Zu ?_) | (refine Zh ?_; refine Zv ?_) | intro _)
    exact qE (L' := []) ⟨hle3, ⟨⟨none, 0, 0, []⟩, by rw [hEb]; try rfl, ⟨SIn.nil, Nat.le_refl _⟩, fun b hb => by rw [hEb] at hb; simp at hb⟩, rfl⟩
   ·by_cases h2 : h.turn < turn
    ·repeat' (first | (refine Zb (.func 55) ?_; refine qC rfl rfl (hss) ?_; rintro v ρ' L' hle ⟨rfl, rfl, rfl⟩ <;> (try simp only [kM, kN, kO])) | (refine ZV ?_; refine Zy (Zc rfl) rfl rfl ?_) | (refine Zf ?_; first | (refine Ze ?_; refine qQ ?_) | refine Zk ?_) | refine Za ?_ | (refine Zg ?_; refine Zu ?_) | (refine Zh ?_; refine Zv ?_) | intro _)
     exact qE (L' := []) ⟨hle3, ⟨⟨none, 0, 0, []⟩, by rw [hEb]; try rfl, ⟨SIn.nil, Nat.le_refl _⟩, fun b hb => by rw [hEb] at hb; simp at hb⟩, rfl⟩
    ·by_cases h3 : 8000 < size
     ·repeat' (first | (refine Zb (.func 55) ?_; refine qC rfl rfl (hss) ?_; rintro v ρ' L' hle ⟨rfl, rfl, rfl⟩ <;> (try simp only [kM, kN, kO])) | (refine ZV ?_; refine Zy (Zc rfl) rfl rfl ?_) | (refine Zf ?_; first | (refine Ze ?_; refine qQ ?_) | refine Zk ?_) | refine Za ?_ | (refine Zg ?_; refine Zu ?_) | (refine Zh ?_; refine Zv ?_) | intro _)
      exact qE (L' := []) ⟨hle3, ⟨⟨none, 0, 0, []⟩, by rw [hEb]; try rfl, ⟨SIn.nil, Nat.le_refl _⟩, fun b hb => by rw [hEb] at hb; simp at hb⟩, rfl⟩
     ·have h4 : left < Zt size := by omega
      repeat' (first | (refine Zb (.func 55) ?_; refine qC rfl rfl (hss) ?_; rintro v ρ' L' hle ⟨rfl, rfl, rfl⟩ <;> (try simp only [kM, kN, kO])) | (refine ZV ?_; refine Zy (Zc rfl) rfl rfl ?_) | (refine Zf ?_; first | (refine Ze ?_; refine qQ ?_) | refine Zk ?_) | refine Za ?_ | (refine Zg ?_; refine Zu ?_) | (refine Zh ?_; refine Zv ?_) | intro _)
      exact qE (L' := []) ⟨hle3, ⟨⟨none, 0, 0, []⟩, by rw [hEb]; try rfl, ⟨SIn.nil, Nat.le_refl _⟩, fun b hb => by rw [hEb] at hb; simp at hb⟩, rfl⟩
  ·have hEg : E = XM h (fun i => F[i]?.getD Yv) n at' turn size (Zt size) 0 [] := by rw [hE, if_neg (fun hh => hbad (hEB.1 hh))]
   have g1 : 1 ≤ turn := by omega
   have g2 : turn ≤ h.turn := by omega
   have g3 : size ≤ 8000 := by omega
   have g4 : Zt size ≤ left := by omega
   clear hbad hE
   have hF3 := hF.mono hle3
   repeat' (first | (refine Zb (.func 55) ?_; refine qC rfl rfl (hss) ?_; rintro v ρ' L' hle ⟨rfl, rfl, rfl⟩ <;> (try simp only [kM, kN, kO])) | (refine ZV ?_; refine Zy (Zc rfl) rfl rfl ?_) | (refine Zf ?_; first | (refine Ze ?_; refine qQ ?_) | refine Zk ?_) | refine Za ?_ | (refine Zg ?_; refine Zu ?_) | (refine Zh ?_; refine Zv ?_) | intro _)
   refine ZP [(1, _), (2, _), (3, _), (5, _), (14, _), (15, _), (53, _)] (fun (ζ : (Nat) × (Bs) × (Value) × (List Value) × (Hp)) => [(54, .int .i64 ζ.1), (16, ζ.2.2.1), (10, .slice none 0 0), (11, .int .i64 0), (12, .bool false)]) (fun (ζ : (Nat) × (Bs) × (Value) × (List Value) × (Hp)) => ζ.2.2.2.2) (fun (ζ : (Nat) × (Bs) × (Value) × (List Value) × (Hp)) => [ZO ζ.2.2.1 (ζ.2.1.map ZE) ζ.2.2.2.1 5, [(b5, .cells ⟨rhV h na nn nc⟩ 32 (0, 0))]]) (fun (ζ : (Nat) × (Bs) × (Value) × (List Value) × (Hp)) => ζ.1 ≤ Zt size ∧ ζ.2.1.length = 52 * ζ.1 ∧ OwnS ζ.2.2.1 ζ.2.1.length (ζ.2.1.map ZE) ζ.2.2.2.1 1 ∧ ρ'.le ζ.2.2.2.2 ∧ E = ((XM h (fun i => F[i]?.getD Yv) n at' turn size (Zt size - ζ.1) ζ.1 ζ.2.1).1, (XM h (fun i => F[i]?.getD Yv) n at' turn size (Zt size - ζ.1) ζ.1 ζ.2.1).2 + ζ.1)) (fun (ζ : (Nat) × (Bs) × (Value) × (List Value) × (Hp)) => Zt size - ζ.1) ((0, [], .slice none 0 0, [], ρ')) (⟨Nat.zero_le _, rfl, OwnS.nil 1, Hp.le_refl _, by rw [hEg]; rfl⟩) Zx Zx rfl tk ?_
   rintro ⟨k, acc, v, sp, ρ4⟩ hI
   try simp only [List.cons_append, List.nil_append, List.append_assoc, List.append_eq] at hI ⊢
   try dsimp only at hI ⊢
   obtain ⟨hk, hacc, hown, hl4, hEk⟩ := hI
   have hl34 := Hp.le_trans hle3 hl4
   by_cases hlt : k < Zt size
   ·have hmk := Nat.mod_lt (at' + k) hsz
    obtain ⟨b1, off1, C1, T1, fr1, e1, hb1, hb51, hcd1⟩ := (hF.mono hl34).get (show (at' + k) % h.size < F.length by omega)
    cases e1
    have hk64 := h64 _ (List.getElem_mem (show (at' + k) % h.size < F.length by omega))
    rw [F_at] at hcd1 hk64
    have hj : Zt size - k = (Zt size - (k + 1)) + 1 := by omega
    have hok : ZJ turn n (Yi size (acc ++ (F[(at' + k) % h.size]?.getD Yv).drop 12)) k = F[(at' + k) % h.size]?.getD Yv → E = ((XM h (fun i => F[i]?.getD Yv) n at' turn size (Zt size - (k + 1)) (k + 1) (acc ++ (F[(at' + k) % h.size]?.getD Yv).drop 12)).1, (XM h (fun i => F[i]?.getD Yv) n at' turn size (Zt size - (k + 1)) (k + 1) (acc ++ (F[(at' + k) % h.size]?.getD Yv).drop 12)).2 + (k + 1)) := fun hp => by
     rw [hEk, hj, XM, if_pos hp]
     dsimp only
     rw [Nat.add_assoc, Nat.add_comm 1 k]
    have hno : ¬ ZJ turn n (Yi size (acc ++ (F[(at' + k) % h.size]?.getD Yv).drop 12)) k = F[(at' + k) % h.size]?.getD Yv → E = (none, k + 1) := fun hp => by
     rw [hEk, hj, XM, if_neg hp]
     dsimp only
     rw [Nat.add_comm]
    generalize hq : F[(at' + k) % h.size]?.getD Yv = q at *
    have hql : (q.map ZE).length = 64 := by simpa using hk64
    have hqo := ZM q
    repeat' (first | (refine ZV ?_; refine Zy (Zc rfl) rfl rfl ?_) | (refine Zf ?_; first | (refine Ze ?_; refine qQ ?_) | refine Zk ?_) | refine Za ?_ | (refine Zg ?_; refine Zu ?_) | (refine Zh ?_; refine Zv ?_) | intro _)
    rw [hrm]
    repeat' (first | (refine ZV ?_; refine Zy (Zc rfl) rfl rfl ?_) | (refine Zf ?_; first | (refine Ze ?_; refine qQ ?_) | refine Zk ?_) | refine Za ?_ | (refine Zg ?_; refine Zu ?_) | (refine Zh ?_; refine Zv ?_) | intro _)
    rename_i b18
    refine Yd [(b18, .cells ⟨q.map ZE⟩ 48 (0, 0))] (h := by infer_instance) (fun ρ5 hl5 hfz5 => ?_)
    have hbq := hfz5 _ (List.mem_singleton.2 rfl)
    dsimp only at hbq
    have hsn : SIn ρ5 ZE (some ⟨b18, 0 + 12 * 1, none⟩) 52 ((q.drop 12).take 52) := Yy hbq 12 52 (by omega)
    rw [List.take_of_length_le (by simp; omega)] at hsn
    have hq52 : (q.drop 12).length = 52 := by simp; omega
    refine ZR (ys := q.drop 12) (m := 52) rfl rfl hown (hR := by infer_instance) (SIn.srcV hsn) hq52 (by omega) rfl (fun v6 sp6 hown6 => ?_)
    have hal : (acc ++ q.drop 12).length = 52 * k + 52 := by rw [List.length_append, hacc, hq52]
    replace hown6 := hown6.re hal
    generalize acc ++ q.drop 12 = A at *
    obtain ⟨a6, c6, rfl, _⟩ := hown6.slice
    by_cases hsh : 52 * k + 52 < size
    ·have hmn : min ((52 * k + 52 : Nat) : Int) (size : Int) = ((52 * k + 52 : Nat) : Int) := by omega
     repeat' (first | (refine ZV ?_; refine Zy (Zc rfl) rfl rfl ?_) | (refine Zf ?_; first | (refine Ze ?_; refine qQ ?_) | refine Zk ?_) | refine Za ?_ | (refine Zg ?_; refine Zu ?_) | (refine Zh ?_; refine Zv ?_) | intro _)
     simp only [hmn, Int.toNat_natCast]
     refine ZR (l := []) (sp := []) (ys := A) (m := 52 * k + 52) rfl rfl (OwnS.zero _ 1) (hR := YK) (SrcV.own (v := .nilIface) hown6 (T := 5) (hR := by infer_instance)) hal (by simp; omega) rfl (fun v7 sp7 hown7 => ?_)
     simp only [List.nil_append] at hown7 ⊢
     replace hown7 := hown7.re hal
     have hsub : ((size : Nat) : Int) - ((52 * k + 52 : Nat) : Int) = ((size - (52 * k + 52) : Nat) : Int) := by omega
     repeat' (first | (refine ZV ?_; refine Zy (Zc rfl) rfl rfl ?_) | (refine Zf ?_; first | (refine Ze ?_; refine qQ ?_) | refine Zk ?_) | refine Za ?_ | (refine Zg ?_; refine Zu ?_) | (refine Zh ?_; refine Zv ?_) | intro _)
     rw [hsub]
     refine tl_appZown (m := size - (52 * k + 52)) rfl rfl hown7 (by omega) (hR := by infer_instance) (by omega) (by omega) rfl (fun v8 sp8 hown8 => ?_)
     have hfit : A ++ List.replicate (size - (52 * k + 52)) (0 : UInt8) = Yi size A := by
      unfold Yi z8
      rw [List.take_append, List.take_of_length_le (by omega), hal, List.take_replicate, Nat.min_eq_left (by omega)]
     rw [hfit, show 52 * k + 52 + (size - (52 * k + 52)) = size by omega] at hown8
     rw [hfit]
     have hfl : (Yi size A).length = size := YY _ _
     obtain ⟨a8, c8, rfl, hc8⟩ := hown8.slice
     have hrd := hown8.rd (ρ := ρ5) (T := 5)
     have hpt := part04_spec ρ5 _ turn n a8 size c8 (Yi size A) hrd hc8 k (by omega) hn (by omega) hlt
     have hpl2 : ((ZJ turn n (Yi size A) k).map ZE).length = 64 := by simp [YF]
     have hld : List.take 64 (List.drop 0 (q.map ZE)) = q.map ZE := by rw [List.drop_zero, List.take_of_length_le (by omega)]
     repeat' (first | (refine ZV ?_; refine Zy (Zc rfl) rfl rfl ?_) | (refine Zf ?_; first | (refine Ze ?_; refine qQ ?_) | refine Zk ?_) | refine Za ?_ | (refine Zg ?_; refine Zu ?_) | (refine Zh ?_; refine Zv ?_) | intro _)
     by_cases hp : ZJ turn n (Yi size A) k = q
     ·rw [hp] at hpt
      refine ZA (Zo _ _ ([])) (Zn (hT := tk) (Hp.le_refl _)) ?_
      all_goals (refine ZL 0 ?_; refine ZL 1 ?_; refine ZL 2 ?_; refine ZL 3 ?_; refine ZX 5 ?_)
      all_goals (refine Zp (i := 4) ?_; ((try refine Zl ?_); (first | (refine Zb (.func 56) ?_; refine qC rfl rfl hpt ?_; rintro v9 ρ9 L9 hle9 ⟨rfl, hl9, rfl⟩; try simp only [List.cons_append, List.nil_append]) | (refine Zk ?_; try intro _)) <;> ((try simp only [kM, kN, kO]); refine Za ?_; refine Zm ?_)))
      all_goals (refine ZN ?_; refine rCm 6 ?_; refine ZH ?_)
      all_goals (repeat' (first | (refine ZV ?_; refine Zy (Zc rfl) rfl rfl ?_) | (refine Zf ?_; first | (refine Ze ?_; refine qQ ?_) | refine Zk ?_) | refine Za ?_ | (refine Zg ?_; refine Zu ?_) | (refine Zh ?_; refine Zv ?_) | intro _))
      all_goals refine ZI (k + 1, A, .slice a6 (52 * k + 52) c6, sp6, _) (⟨hlt, by dsimp only; omega, hown6.re hal.symm, Hp.le_trans hl4 (Hp.le_trans hl5 hl9), hok hp⟩) Zx Zx rfl tk inferInstance (by first | omega | (dsimp only; omega))
     ·have hlm1 : (ZJ turn n (Yi size A) k).length = 64 := YF _ _ _ _
      refine ZA (Zo _ _ ([])) (Zn (hT := tk) (Hp.le_refl _)) ?_
      all_goals (refine ZL 0 ?_; refine ZL 1 ?_; refine ZL 2 ?_; refine ZL 3 ?_; refine ZX 5 ?_)
      all_goals (refine Zp (i := 4) ?_; ((try refine Zl ?_); (first | (refine Zb (.func 56) ?_; refine qC rfl rfl hpt ?_; rintro v9 ρ9 L9 hle9 ⟨rfl, hl9, rfl⟩; try simp only [List.cons_append, List.nil_append]) | (refine Zk ?_; try intro _)) <;> ((try simp only [kM, kN, kO]); refine Za ?_; refine Zm ?_)))
      all_goals (refine ZN ?_; refine rCm 6 ?_; refine ZH ?_)
      all_goals (repeat' (first | (refine ZV ?_; refine Zy (Zc rfl) rfl rfl ?_) | (refine Zf ?_; first | (refine Ze ?_; refine qQ ?_) | refine Zk ?_) | refine Za ?_ | (refine Zg ?_; refine Zu ?_) | (refine Zh ?_; refine Zv ?_) | intro _))
      all_goals have hEb := hno hp
      all_goals have hfin := Hp.le_trans hl34 (Hp.le_trans hl5 hl9)
      all_goals exact qE (L' := []) ⟨hfin, ⟨⟨none, 0, 0, []⟩, by rw [hEb]; try rfl, ⟨SIn.nil, Nat.le_refl _⟩, fun b hb => by rw [hEb] at hb; simp at hb⟩, rfl⟩
    ·have hmn : min ((52 * k + 52 : Nat) : Int) (size : Int) = ((size : Nat) : Int) := by omega
     have hfit : A.take size = Yi size A := by
      unfold Yi
      rw [List.take_append_of_le_length (by omega)]
     have hrd := (hown6.rd (ρ := ρ5) (T := 5)).take (m := size) (by omega)
     rw [hfit] at hrd
     have hpt := part04_spec ρ5 _ turn n a6 size c6 (Yi size A) hrd (by omega) k (by omega) hn (by omega) hlt
     have hpl2 : ((ZJ turn n (Yi size A) k).map ZE).length = 64 := by simp [YF]
     have hld : List.take 64 (List.drop 0 (q.map ZE)) = q.map ZE := by rw [List.drop_zero, List.take_of_length_le (by omega)]
     repeat' (first | (refine ZV ?_; refine Zy (Zc rfl) rfl rfl ?_) | (refine Zf ?_; first | (refine Ze ?_; refine qQ ?_) | refine Zk ?_) | refine Za ?_ | (refine Zg ?_; refine Zu ?_) | (refine Zh ?_; refine Zv ?_) | intro _)
     simp only [hmn, Int.toNat_natCast]
     by_cases hp : ZJ turn n (Yi size A) k = q
     ·rw [hp] at hpt
      refine ZA (Zo _ _ ([])) (Zn (hT := tk) (Hp.le_refl _)) ?_
      all_goals (refine ZL 0 ?_; refine ZL 1 ?_; refine ZL 2 ?_; refine ZL 3 ?_; refine ZX 5 ?_)
      all_goals (refine Zp (i := 4) ?_; ((try refine Zl ?_); (first | (refine Zb (.func 56) ?_; refine qC rfl rfl hpt ?_; rintro v9 ρ9 L9 hle9 ⟨rfl, hl9, rfl⟩; try simp only [List.cons_append, List.nil_append]) | (refine Zk ?_; try intro _)) <;> ((try simp only [kM, kN, kO]); refine Za ?_; refine Zm ?_)))
      all_goals (refine ZN ?_; refine rCm 6 ?_; refine ZH ?_)
      all_goals (repeat' (first | (refine ZV ?_; refine Zy (Zc rfl) rfl rfl ?_) | (refine Zf ?_; first | (refine Ze ?_; refine qQ ?_) | refine Zk ?_) | refine Za ?_ | (refine Zg ?_; refine Zu ?_) | (refine Zh ?_; refine Zv ?_) | intro _))
      all_goals refine ZI (k + 1, A, .slice a6 (52 * k + 52) c6, sp6, _) (⟨hlt, by dsimp only; omega, hown6.re hal.symm, Hp.le_trans hl4 (Hp.le_trans hl5 hl9), hok hp⟩) Zx Zx rfl tk inferInstance (by first | omega | (dsimp only; omega))
     ·have hlm1 : (ZJ turn n (Yi size A) k).length = 64 := YF _ _ _ _
      refine ZA (Zo _ _ ([])) (Zn (hT := tk) (Hp.le_refl _)) ?_
      all_goals (refine ZL 0 ?_; refine ZL 1 ?_; refine ZL 2 ?_; refine ZL 3 ?_; refine ZX 5 ?_)
      all_goals (refine Zp (i := 4) ?_; ((try refine Zl ?_); (first | (refine Zb (.func 56) ?_; refine qC rfl rfl hpt ?_; rintro v9 ρ9 L9 hle9 ⟨rfl, hl9, rfl⟩; try simp only [List.cons_append, List.nil_append]) | (refine Zk ?_; try intro _)) <;> ((try simp only [kM, kN, kO]); refine Za ?_; refine Zm ?_)))
      all_goals (refine ZN ?_; refine rCm 6 ?_; refine ZH ?_)
      all_goals (repeat' (first | (refine ZV ?_; refine Zy (Zc rfl) rfl rfl ?_) | (refine Zf ?_; first | (refine Ze ?_; refine qQ ?_) | refine Zk ?_) | refine Za ?_ | (refine Zg ?_; refine Zu ?_) | (refine Zh ?_; refine Zv ?_) | intro _))
      all_goals have hEb := hno hp
      all_goals have hfin := Hp.le_trans hl34 (Hp.le_trans hl5 hl9)
      all_goals exact qE (L' := []) ⟨hfin, ⟨⟨none, 0, 0, []⟩, by rw [hEb]; try rfl, ⟨SIn.nil, Nat.le_refl _⟩, fun b hb => by rw [hEb] at hb; simp at hb⟩, rfl⟩
   ·have hks : k = Zt size := by omega
    subst hks
    rw [Nat.sub_self, XM, Nat.zero_add] at hEk
    have hal : size ≤ acc.length := by rw [hacc]; unfold Zt; omega
    have hfit : acc.take size = Yi size acc := by
     unfold Yi
     rw [List.take_append_of_le_length (by omega)]
    obtain ⟨a6, c6, rfl, hc6⟩ := hown.slice
    repeat' (first | (refine ZV ?_; refine Zy (Zc rfl) rfl rfl ?_) | (refine Zf ?_; first | (refine Ze ?_; refine qQ ?_) | refine Zk ?_) | refine Za ?_ | (refine Zg ?_; refine Zu ?_) | (refine Zh ?_; refine Zv ?_) | intro _)
    refine YZ (ZO (.slice a6 acc.length c6) (acc.map ZE) sp 5) (h := by infer_instance) (fun ρ5 hl5 hfz5 => ?_)
    obtain ⟨a7, c7, e7, hc7, hs7⟩ := hown.sIn hfz5
    cases e7
    have hs8 := hs7.take (hi' := size) (by omega)
    rw [hfit] at hs8
    have hss5 := XG ρ5 size (by omega)
    refine ZA (Zo _ _ ([])) (Zn (hT := tk) (Hp.le_refl _)) ?_
    all_goals (refine ZL 0 ?_; refine ZL 1 ?_; refine rSl 2 ?_; refine ZL 3 ?_)
    all_goals (refine Zp (i := 4) ?_; ((try refine Zl ?_); (first | (refine Zb (.func 55) ?_; refine qC rfl rfl (hss5) ?_; rintro v ρ' L' hle ⟨rfl, rfl, rfl⟩ <;> (try simp only [kM, kN, kO])) | (refine Zk ?_; try intro _)) <;> ((try simp only [kM, kN, kO]); refine Za ?_; refine Zm ?_)))
    all_goals (refine ZN ?_; refine rAs 5 ?_; refine rAs 6 ?_; refine rAs 7 ?_; refine ZH ?_)
    all_goals (repeat' (first | (refine ZV ?_; refine Zy (Zc rfl) rfl rfl ?_) | (refine Zf ?_; first | (refine Ze ?_; refine qQ ?_) | refine Zk ?_) | refine Za ?_ | (refine Zg ?_; refine Zu ?_) | (refine Zh ?_; refine Zv ?_) | intro _))
    all_goals have hfin := Hp.le_trans hl34 ‹_›
    all_goals exact qE (L' := []) ⟨hfin, ⟨⟨a6, size, c6, Yi size acc⟩, by rw [hEk]; try rfl, ⟨hs8, by dsimp only; omega⟩, fun b hb => by rw [hEk] at hb; simpa using hb⟩, rfl⟩
def nv (i : Nat) : Value := .int .i64 (i : Int)
theorem entS_facts (h : Hd) (f : Nat → Blk) (n at' turn size : Nat) : ∀ (j k : Nat) (acc : Bs), (XM h f n at' turn size j k acc).2 ≤ j ∧ ∀ b, (XM h f n at' turn size j k acc).1 = some b → b.length = size ∧ (XM h f n at' turn size j k acc).2 = j
 | 0, k, acc => ⟨Nat.le_refl _, fun b hb => by simp only [XM, Option.some.injEq] at hb ⊢; subst hb; exact ⟨YY _ _, trivial⟩⟩
 | j + 1, k, acc => by
  unfold XM
  split
  ·obtain ⟨h1, h2⟩ := entS_facts h f n at' turn size j (k + 1) (acc ++ (f ((at' + k) % h.size)).drop 12)
   dsimp only
   exact ⟨by omega, fun b hb => by obtain ⟨h3, h4⟩ := h2 b hb; exact ⟨h3, by omega⟩⟩
  ·dsimp only
   exact ⟨by omega, fun b hb => by simp at hb⟩
theorem entryS_facts (h : Hd) (f : Nat → Blk) (n at' left : Nat) : (YR h f n at' left).2 ≤ 154 ∧ ∀ b, (YR h f n at' left).1 = some b → b.length ≤ 8000 ∧ Zt b.length ≤ left := by
 unfold YR
 split
 ·exact ⟨by simp, fun b hb => by simp at hb⟩
 ·split
  ·exact ⟨by simp, fun b hb => by simp at hb⟩
  ·rename_i h1 h2
   unfold Xw at h2
   obtain ⟨e1, e2⟩ := entS_facts h f n at' (ZW (f (at' % h.size))) (Zz (f (at' % h.size))) (Zt (Zz (f (at' % h.size)))) 0 []
   have hs := sects_le (n := Zz (f (at' % h.size))) (by omega)
   refine ⟨by omega, fun b hb => ?_⟩
   obtain ⟨e3, e4⟩ := e2 b hb
   rw [e3]
   exact ⟨by omega, by omega⟩
abbrev saidV (h : Hd) (na : Option Addr) (nn nc : Nat) (ve va : Value) : List Value := [.int .u64 h.turn, .int .i64 h.size, .int .u64 h.first, .int .i64 h.place, .slice na nn nc, ve, va]
theorem says04_spec (ρ : Hp) (h : Hd) (na : Option Addr) (nn nc : Nat) (hsz : 0 < h.size) (hsz2 : h.size ≤ 1000) (ht : h.turn ≤ 1073741824) (hfi : h.first ≤ 1099511627776) (hpl : h.place < h.size) (a : Option Addr) (c : Nat) (F : List Blk) (hF : AIn ρ 64 (fun b : Blk => b.map ZE) a h.size F) (h64 : ∀ b ∈ F, b.length = 64) :
  Spec Try.prog 52 [.agg ⟨rhV h na nn nc⟩, .slice a h.size c] ρ [] (fun v ρ' L' => ρ.le ρ' ∧ (∃ ea ec els sa sc, v = .agg ⟨saidV h na nn nc (.slice ea els.length ec) (.slice sa (Yx h (fun i => F[i]?.getD Yv) (h.size + 1) [] []).2.length sc)⟩ ∧ SIn ρ' slv ea els.length els ∧ (∀ e ∈ els, BIn ρ' e) ∧ els.length ≤ ec ∧ els.map BSl.l = (Yx h (fun i => F[i]?.getD Yv) (h.size + 1) [] []).1 ∧ ZB (els.map BSl.l) ≤ h.size ∧ (∀ e ∈ els, e.n ≤ 8000) ∧ SIn ρ' nv sa (Yx h (fun i => F[i]?.getD Yv) (h.size + 1) [] []).2.length (Yx h (fun i => F[i]?.getD Yv) (h.size + 1) [] []).2 ∧ (Yx h (fun i => F[i]?.getD Yv) (h.size + 1) [] []).2.length ≤ 400000) ∧ L' = []) := by
 generalize hG : Yx h (fun i => F[i]?.getD Yv) (h.size + 1) [] [] = G at *
 refine Zd Try.func52 rfl rfl rfl fun u R => ?_
 simp only [Zw, List.cons_append, List.nil_append]
 repeat' (first | (refine ZV ?_; refine Zy (Zc rfl) rfl rfl ?_) | (refine Zf ?_; first | (refine Ze ?_; refine qQ ?_) | refine Zk ?_) | refine Za ?_ | (refine Zg ?_; refine Zu ?_) | (refine Zh ?_; refine Zv ?_) | intro _)
 rename_i b2 b4 b5
 refine ZA (Zo _ _ ([[(b2, .cells ⟨rhV h na nn nc⟩ 32 (0, 0))]])) (Zn (hT := tk) (Hp.le_refl _)) ?_
 all_goals (refine ZU 0 ?_; refine ZN ?_; refine ZX 1 ?_; refine ZU 2 ?_; refine ZX 3 ?_; refine rAs 4 ?_; refine rAs 5 ?_; refine ZH ?_)
 all_goals (repeat' (first | (refine ZV ?_; refine Zy (Zc rfl) rfl rfl ?_) | (refine Zf ?_; first | (refine Ze ?_; refine qQ ?_) | refine Zk ?_) | refine Za ?_ | (refine Zg ?_; refine Zu ?_) | (refine Zh ?_; refine Zv ?_) | intro _))
 refine ZP [(1, _), (2, _), (4, _), (5, _)] (fun (ζ : (List BSl) × (List Nat) × (Value) × (List Value) × (Value) × (List Value) × (Hp)) => [(6, .int .i64 ((h.place + ZB (ζ.1.map BSl.l) : Nat) : Int)), (7, .int .i64 ((h.size - ZB (ζ.1.map BSl.l) : Nat) : Int))]) (fun (ζ : (List BSl) × (List Nat) × (Value) × (List Value) × (Value) × (List Value) × (Hp)) => ζ.2.2.2.2.2.2) (fun (ζ : (List BSl) × (List Nat) × (Value) × (List Value) × (Value) × (List Value) × (Hp)) => [ZO ζ.2.2.1 (ζ.1.map slv) ζ.2.2.2.1 30, ZO ζ.2.2.2.2.1 (ζ.2.1.map nv) ζ.2.2.2.2.2.1 3, [(b5, .cells ⟨saidV h na nn nc ζ.2.2.1 ζ.2.2.2.2.1⟩ 36 (0, 0))], [(b4, .cells ⟨[.int .u64 0, .int .i64 0, .int .u64 0, .int .i64 0, .slice none 0 0, .slice none 0 0, .slice none 0 0]⟩ 36 (0, 0))], [(b2, .cells ⟨rhV h na nn nc⟩ 32 (0, 0))]]) (fun (ζ : (List BSl) × (List Nat) × (Value) × (List Value) × (Value) × (List Value) × (Hp)) => ρ.le ζ.2.2.2.2.2.2 ∧ OwnS ζ.2.2.1 ζ.1.length (ζ.1.map slv) ζ.2.2.2.1 1 ∧ OwnS ζ.2.2.2.2.1 ζ.2.1.length (ζ.2.1.map nv) ζ.2.2.2.2.2.1 1 ∧ (∀ e ∈ ζ.1, BIn ζ.2.2.2.2.2.2 e) ∧ (∀ e ∈ ζ.1, e.n ≤ 8000) ∧ ZB (ζ.1.map BSl.l) ≤ h.size ∧ ζ.2.1.length ≤ 200 * ζ.1.length ∧ Yx h (fun i => F[i]?.getD Yv) (h.size + 1 - ζ.1.length) (ζ.1.map BSl.l) ζ.2.1 = G) (fun (ζ : (List BSl) × (List Nat) × (Value) × (List Value) × (Value) × (List Value) × (Hp)) => h.size + 1 - ζ.1.length) (([], [], .slice none 0 0, [], .slice none 0 0, [], ρ)) (⟨Hp.le_refl _, OwnS.nil 1, OwnS.nil 1, fun e he => by simp at he, fun e he => by simp at he, Nat.zero_le _, Nat.zero_le _, hG⟩) Zx Zx rfl tk ?_
 rintro ⟨els, ask, ve, spE, va, spA, ρ2⟩ hI
 try simp only [List.cons_append, List.nil_append, List.append_assoc, List.append_eq] at hI ⊢
 try dsimp only at hI ⊢
 obtain ⟨hl2, hownE, hownA, hin, h8, hu, hal, hGo⟩ := hI
 have hul := Xi (els.map BSl.l)
 rw [List.length_map] at hul
 obtain ⟨g, hg⟩ : ∃ g, h.size + 1 - els.length = g + 1 := ⟨h.size - els.length, by omega⟩
 rw [hg, Yx, List.length_map] at hGo
 obtain ⟨ea, ec, rfl, hec⟩ := hownE.slice
 obtain ⟨sa, sc, rfl, hsc⟩ := hownA.slice
 obtain ⟨fI, hfI⟩ : ∃ z : Int, z = (h.first : Int) := ⟨_, rfl⟩
 have hfI2 : (fI + (els.length : Int)) = ((h.first + els.length : Nat) : Int) := by omega
 by_cases hfst : h.first + els.length < 1099511627776
 ·rw [if_pos hfst] at hGo
  have hent := entry04_spec ρ2 h na nn nc hsz hsz2 ht a c F (hF.mono hl2) h64 (h.first + els.length) (h.place + ZB (els.map BSl.l)) (h.size - ZB (els.map BSl.l)) (by omega) (by omega) (by omega)
  obtain ⟨hA1, hA2⟩ := entryS_facts h (fun i => F[i]?.getD Yv) (h.first + els.length) (h.place + ZB (els.map BSl.l)) (h.size - ZB (els.map BSl.l))
  generalize YR h (fun i => F[i]?.getD Yv) (h.first + els.length) (h.place + ZB (els.map BSl.l)) (h.size - ZB (els.map BSl.l)) = E at *
  obtain ⟨o, n⟩ := E
  dsimp only at hent hA1 hA2
  rw [← hfI2] at hent
  unfold rhV saidV
  unfold rhV at hent
  rw [← hfI] at hent ⊢
  have q1 : fI + (els.length : Int) < 1099511627776 := by omega
  have q2 : 0 ≤ fI := by omega
  repeat' (first | (refine Zb (.func 70) ?_; refine qC rfl rfl (hent) ?_; rintro v ρ' L' hle ⟨hl3, ⟨e, rfl, he, heb⟩, rfl⟩ <;> (try simp only [kM, kN, kO])) | (refine ZV ?_; refine Zy (Zc rfl) rfl rfl ?_) | (refine Zf ?_; first | (refine Ze ?_; refine qQ ?_) | refine Zk ?_) | refine Za ?_ | (refine Zg ?_; refine Zu ?_) | (refine Zh ?_; refine Zv ?_) | intro _)
  rw [show ask.map nv = (ask ++ askL h (h.place + ZB (els.map BSl.l)) 0).map nv by simp [askL]] at hownA ⊢
  refine ZP [(1, _), (2, _), (4, _), (5, _), (6, _), (7, _), (8, _), (9, _), (10, _), (18, _), (19, _), (20, _), (21, _), (22, _), (23, _), (24, _), (25, _), (26, _), (27, _), (28, _), (29, _), (30, _), (31, _), (32, _), (33, _), (34, _), (35, _), (36, _), (37, _), (38, _), (39, _), (40, _), (41, _), (42, _)] (fun (ζ : (Nat) × (Value) × (List Value)) => [(43, .int .i64 ζ.1)]) (fun (ζ : (Nat) × (Value) × (List Value)) => ρ') (fun (ζ : (Nat) × (Value) × (List Value)) => [ZO (.slice ea els.length ec) (els.map slv) spE 30, ZO ζ.2.1 ((ask ++ askL h (h.place + ZB (els.map BSl.l)) ζ.1).map nv) ζ.2.2 3, [(b5, .cells ⟨[.int .u64 h.turn, .int .i64 h.size, .int .u64 fI, .int .i64 h.place, .slice na nn nc, .slice ea els.length ec, ζ.2.1]⟩ 36 (0, 0))], [(b4, .cells ⟨[.int .u64 0, .int .i64 0, .int .u64 0, .int .i64 0, .slice none 0 0, .slice none 0 0, .slice none 0 0]⟩ 36 (0, 0))], [(b2, .cells ⟨[.int .u64 h.turn, .int .i64 h.size, .int .u64 fI, .int .i64 h.place, .slice na nn nc]⟩ 32 (0, 0))]]) (fun (ζ : (Nat) × (Value) × (List Value)) => ζ.1 ≤ n ∧ OwnS ζ.2.1 (ask.length + ζ.1) ((ask ++ askL h (h.place + ZB (els.map BSl.l)) ζ.1).map nv) ζ.2.2 1) (fun (ζ : (Nat) × (Value) × (List Value)) => n - ζ.1) ((0, .slice sa ask.length sc, spA)) (⟨Nat.zero_le _, hownA⟩) Zx Zx rfl tk ?_
  rintro ⟨k, va2, spA2⟩ hI
  try simp only [List.cons_append, List.nil_append, List.append_assoc, List.append_eq] at hI ⊢
  try dsimp only at hI ⊢
  obtain ⟨hk, hown2⟩ := hI
  by_cases hkn : k < n
  ·have hrm : (((h.place + ZB (els.map BSl.l) : Nat) : Int) + (k : Int)).tmod (h.size : Int) = (((h.place + ZB (els.map BSl.l) + k) % h.size : Nat) : Int) := by
    rw [Int.tmod_eq_emod_of_nonneg (by omega), Int.natCast_emod, Int.natCast_add (h.place + ZB (els.map BSl.l))]
   have hnx : (ask ++ askL h (h.place + ZB (els.map BSl.l)) k).map nv ++ [nv ((h.place + ZB (els.map BSl.l) + k) % h.size)] = (ask ++ askL h (h.place + ZB (els.map BSl.l)) (k + 1)).map nv := by
    unfold askL
    rw [List.range_succ]; simp
   have hPb : h.place + ZB (els.map BSl.l) ≤ 100000 := by omega
   generalize h.place + ZB (els.map BSl.l) = P at *
   obtain ⟨sa2, sc2, rfl, _⟩ := hown2.slice
   repeat' (first | (refine ZV ?_; refine Zy (Zc rfl) rfl rfl ?_) | (refine Zf ?_; first | (refine Ze ?_; refine qQ ?_) | refine Zk ?_) | refine Za ?_ | (refine Zg ?_; refine Zu ?_) | (refine Zh ?_; refine Zv ?_) | intro _)
   refine tc_phase 11 (Zo _ _ ([[(b5, .cells ⟨[.int .u64 h.turn, .int .i64 h.size, .int .u64 fI, .int .i64 h.place, .slice na nn nc, .slice ea els.length ec, .slice sa2 (ask.length + k) sc2]⟩ 36 (0, 0))], [(b2, .cells ⟨[.int .u64 h.turn, .int .i64 h.size, .int .u64 fI, .int .i64 h.place, .slice na nn nc]⟩ 32 (0, 0))]])) (by decide +kernel) (Zn (hT := tk) (Hp.le_refl _)) ?_
   simp only [List.take_succ_cons, List.take_zero]
   all_goals (refine ZU 0 ?_; refine ZX 1 ?_; refine ZL 2 ?_; refine ZL 3 ?_; refine rAd 4 ?_; refine ZU 5 ?_; refine ZX 6 ?_; refine rRm 7 ?_)
   all_goals (refine Zp (i := 8) ?_; ((try refine Zl ?_); (first | (simp only [hrm]; refine Zq rfl rfl rfl rfl (by simp) rfl rfl (fun _ => ?_)) | (refine Zk ?_; try intro _)) <;> ((try simp only [kM, kN, kO]); refine Za ?_; refine Zm ?_)))
   all_goals (refine Zp (i := 9) ?_; ((try refine Zl ?_); (first | (refine Xv (ys := [nv ((P + k) % h.size)]) (m := 1) rfl rfl hown2 (hR := by infer_instance) SrcV.lit rfl rfl (by decide) rfl (by omega) (by omega) rfl (fun v9 sp9 hown9 => ?_); rw [hnx] at hown9 ⊢; obtain ⟨sa3, sc3, rfl, _⟩ := hown9.slice) | (refine Zk ?_; try intro _)) <;> ((try simp only [kM, kN, kO]); refine Za ?_; refine Zm ?_)))
   all_goals (refine ZU 10 ?_; refine ZH ?_)
   all_goals refine te_phase (fuel := 1) (m := [true, true, true, true, true, true, true, true, true, true, true, false]) (Zo _ _ ([])) rfl rfl (Zn (hT := tk) (Hp.le_refl _)) ?_
   all_goals (refine Zp (i := 11) ?_; ((try refine Zl ?_); (first | (refine Zk ?_; try intro _)) <;> ((try simp only [kM, kN, kO]); refine Za ?_; refine Zm ?_)))
   all_goals refine ZH ?_
   all_goals (repeat' (first | (refine ZV ?_; refine Zy (Zc rfl) rfl rfl ?_) | (refine Zf ?_; first | (refine Ze ?_; refine qQ ?_) | refine Zk ?_) | refine Za ?_ | (refine Zg ?_; refine Zu ?_) | (refine Zh ?_; refine Zv ?_) | intro _))
   all_goals refine ZI (k + 1, .slice sa3 (ask.length + k + 1) sc3, sp9) (⟨hkn, hown9⟩) Zx Zx rfl tk inferInstance (by first | omega | (dsimp only; omega))
  ·have hkn2 : k = n := by omega
   subst hkn2
   obtain ⟨sa2, sc2, rfl, _⟩ := hown2.slice
   cases o with
   | none =>
    dsimp only at hGo
    repeat' (first | (refine ZV ?_; refine Zy (Zc rfl) rfl rfl ?_) | (refine Zf ?_; first | (refine Ze ?_; refine qQ ?_) | refine Zk ?_) | refine Za ?_ | (refine Zg ?_; refine Zu ?_) | (refine Zh ?_; refine Zv ?_) | intro _)
    subst hfI
    refine te_freeze (ZO (.slice ea els.length ec) (els.map slv) spE 30) (fun ρ5 hl5 hfz5 => ?_)
    obtain ⟨a5, c5, e5, hc5, hs5⟩ := hownE.sIn hfz5
    cases e5
    have hal2 : ask.length + k = (ask ++ askL h (h.place + ZB (els.map BSl.l)) k).length := by simp [askL]
    rw [hal2] at hown2 ⊢
    generalize ask ++ askL h (h.place + ZB (els.map BSl.l)) k = ask2 at *
    refine te_freeze (ZO (.slice sa2 ask2.length sc2) (ask2.map nv) spA2 3) (fun ρ6 hl6 hfz6 => ?_)
    obtain ⟨a6, c6, e6, hc6, hs6⟩ := hown2.sIn hfz6
    cases e6
    subst hGo
    have hl56 := Hp.le_trans hl3 (Hp.le_trans hl5 hl6)
    have hfin := Hp.le_trans hl2 hl56
    exact qE (L' := []) ⟨hfin, ⟨ea, ec, els, sa2, sc2, rfl, hs5.mono hl6, fun e he => (hin e he).mono hl56, hc5, rfl, hu, h8, hs6, by dsimp only; omega⟩, rfl⟩
   | some b =>
    dsimp only at hGo
    obtain ⟨hb8, hbs⟩ := hA2 b rfl
    have hebl := heb b rfl
    have hen := he.s.len
    rw [hebl] at hen
    have hms : (els.map slv) ++ [slv e] = (els ++ [e]).map slv := by simp
    have hus : ZB ((els ++ [e]).map BSl.l) = ZB (els.map BSl.l) + Zt e.n := by rw [List.map_append, YO, List.map_cons, List.map_nil, Xd, hebl, hen]; rfl
    rw [hen] at hb8 hbs
    repeat' (first | (refine Zq rfl rfl rfl rfl (by simp) rfl rfl (fun _ => ?_)) | (refine Xv (ys := [slv e]) (m := 1) rfl rfl hownE (hR := by infer_instance) SrcV.lit rfl rfl (by decide) rfl (by omega) (by omega) rfl (fun v9 sp9 hown9 => ?_); rw [hms] at hown9 ⊢; obtain ⟨ea3, ec3, rfl, _⟩ := hown9.slice) | (refine Zb (.func 55) ?_; refine qC rfl rfl (XG _ e.n (by omega)) ?_; rintro v ρ' L' hle ⟨rfl, rfl, rfl⟩ <;> (try simp only [kM, kN, kO])) | (refine ZV ?_; refine Zy (Zc rfl) rfl rfl ?_) | (refine Zf ?_; first | (refine Ze ?_; refine qQ ?_) | refine Zk ?_) | refine Za ?_ | (refine Zg ?_; refine Zu ?_) | (refine Zh ?_; refine Zv ?_) | intro _)
    subst hfI
    rw [show ((h.place + ZB (els.map BSl.l) : Nat) : Int) + (Zt e.n : Nat) = ((h.place + ZB ((els ++ [e]).map BSl.l) : Nat) : Int) by rw [hus]; omega, show ((h.size - ZB (els.map BSl.l) : Nat) : Int) - (Zt e.n : Nat) = ((h.size - ZB ((els ++ [e]).map BSl.l) : Nat) : Int) by rw [hus]; omega]
    have hal2 : ask.length + k = (ask ++ askL h (h.place + ZB (els.map BSl.l)) k).length := by simp [askL]
    have hm1 : els.length + 1 = (els ++ [e]).length := by simp
    have hmap : (els ++ [e]).map BSl.l = els.map BSl.l ++ [b] := by simp [hebl]
    refine ZI (els ++ [e], ask ++ askL h (h.place + ZB (els.map BSl.l)) k, .slice ea3 (els.length + 1) ec3, sp9, .slice sa2 (ask.length + k) sc2, spA2, _) (⟨Hp.le_trans hl2 hl3, hown9.re hm1, hown2.re hal2, fun e' he' => by rcases List.mem_append.1 he' with h1 | h1; exact (hin e' h1).mono hl3; rw [List.mem_singleton.1 h1]; exact he, fun e' he' => by rcases List.mem_append.1 he' with h1 | h1; exact h8 e' h1; rw [List.mem_singleton.1 h1]; exact hb8, by dsimp only; rw [hus]; omega, by dsimp only; rw [← hal2, ← hm1]; omega, by dsimp only; rw [hmap, ← hm1, show h.size + 1 - (els.length + 1) = g by omega]; exact hGo⟩) Zx Zx rfl tk inferInstance (by first | omega | (dsimp only; omega))
 ·rw [if_neg hfst] at hGo
  unfold rhV saidV
  rw [← hfI]
  have q1 : ¬ fI + (els.length : Int) < 1099511627776 := by omega
  have q2 : 0 ≤ fI := by omega
  repeat' (first | (refine ZV ?_; refine Zy (Zc rfl) rfl rfl ?_) | (refine Zf ?_; first | (refine Ze ?_; refine qQ ?_) | refine Zk ?_) | refine Za ?_ | (refine Zg ?_; refine Zu ?_) | (refine Zh ?_; refine Zv ?_) | intro _)
  subst hfI
  refine te_freeze (ZO (.slice ea els.length ec) (els.map slv) spE 30) (fun ρ5 hl5 hfz5 => ?_)
  obtain ⟨a5, c5, e5, hc5, hs5⟩ := hownE.sIn hfz5
  cases e5
  refine te_freeze (ZO (.slice sa ask.length sc) (ask.map nv) spA 3) (fun ρ6 hl6 hfz6 => ?_)
  obtain ⟨a6, c6, e6, hc6, hs6⟩ := hownA.sIn hfz6
  cases e6
  subst hGo
  have hfin := Hp.le_trans hl2 (Hp.le_trans hl5 hl6)
  exact qE (L' := []) ⟨hfin, ⟨ea, ec, els, sa, sc, rfl, hs5.mono hl6, fun e he => (hin e he).mono (Hp.le_trans hl5 hl6), hc5, rfl, hu, h8, hs6, by dsimp only; omega⟩, rfl⟩
structure MW where
 na : Option Addr
 nn : Nat
 nc : Nat
 ea : Option Addr
 ec : Nat
 els : List BSl
 sa : Option Addr
 sn : Nat
 sc : Nat
abbrev mdT (h : Hd) (w : MW) (br no : Bool) : List Value := [.int .u64 h.turn, .int .i64 h.size, .int .u64 h.first, .int .i64 h.place, .slice w.na w.nn w.nc, .slice w.ea w.els.length w.ec, .slice w.sa w.sn w.sc, .bool br, .bool no]
abbrev mdV (db : Nat) (h : Hd) (w : MW) (br no : Bool) : List Value := .pointer (some ⟨db, 0, none⟩) :: mdT h w br no
theorem writes_spec (ρ : Hp) (mb db : Nat) (h : Hd) (w : MW) (br no : Bool) (a : Option Addr) (n c : Nat) (ats : List Nat) (hat : SIn ρ nv a n ats) (a2 : Option Addr) (c2 : Nat) (bl : List Blk) (hbl : AIn ρ 64 (fun b : Blk => b.map ZE) a2 n bl) (h64 : ∀ b ∈ bl, b.length = 64) (hbig : n ≤ 100000) (k : DK) (D : DS) (hD : DOk k D) :
  Spec Try.prog 54 [.pointer (some ⟨mb, 0, none⟩), .slice a n c, .slice a2 n c2] ρ ([[(mb, .cells ⟨mdV db h w br no⟩ 38 (0, 0))]] ++ Zi db k D)
   (fun v ρ' L' => v = .int .i64 (DS.lays (ats.zip bl) D).2 ∧ ρ.le ρ' ∧ ∃ k', DOk k' (DS.lays (ats.zip bl) D).1 ∧ L' = [[(mb, .cells ⟨mdV db h w br no⟩ 38 (0, 0))]] ++ Zi db k' (DS.lays (ats.zip bl) D).1) := by
 have hal := hat.len
 have hbll := hbl.len
 generalize hG : DS.lays (ats.zip bl) D = G at *
 refine Zd Try.func54 rfl rfl rfl fun u R => ?_
 simp only [Zw, List.cons_append, List.nil_append]
 repeat' (first | (refine ZV ?_; refine Zy (Zc rfl) rfl rfl ?_) | (refine Zf ?_; first | (refine Ze ?_; refine qQ ?_) | refine Zk ?_) | refine Za ?_ | (refine Zg ?_; refine Zu ?_) | (refine Zh ?_; refine Zv ?_) | intro _)
 refine ZP [(0, _), (1, _), (10, _), (11, _)] (fun (ζ : (Nat) × (DK) × (DS)) => [(12, .int .i64 ζ.1), (6, .int .i64 0)]) (fun (ζ : (Nat) × (DK) × (DS)) => ρ) (fun (ζ : (Nat) × (DK) × (DS)) => [[(mb, .cells ⟨mdV db h w br no⟩ 38 (0, 0))]] ++ Zi db ζ.2.1 ζ.2.2) (fun (ζ : (Nat) × (DK) × (DS)) => ζ.1 ≤ n ∧ DOk ζ.2.1 ζ.2.2 ∧ DS.lays ((ats.drop ζ.1).zip (bl.drop ζ.1)) ζ.2.2 = G) (fun (ζ : (Nat) × (DK) × (DS)) => n - ζ.1) ((0, k, D)) (⟨Nat.zero_le _, hD, hG⟩) Zx Zx rfl tk ?_
 rintro ⟨i, k, D1⟩ hI
 try simp only [List.cons_append, List.nil_append, List.append_assoc, List.append_eq] at hI ⊢
 try dsimp only at hI ⊢
 obtain ⟨hi, hk, hg⟩ := hI
 by_cases hlt : i < n
 ·obtain ⟨b, off, C, T, fr, rfl, hb, hc⟩ := hat.get (show i < ats.length by omega)
  obtain ⟨b2, off2, C2, T2, fr2, rfl, hb2, hb25, hc2⟩ := hbl.get (show i < bl.length by omega)
  have hk64 := h64 _ (List.getElem_mem (show i < bl.length by omega))
  rw [List.drop_eq_getElem_cons (show i < ats.length by omega), List.drop_eq_getElem_cons (show i < bl.length by omega), List.zip_cons_cons, DS.lays] at hg
  dsimp only at hg
  generalize ats[i]'(by omega) = p at *
  generalize bl[i]'(by omega) = q at *
  have hql : (q.map ZE).length = 64 := by simpa using hk64
  have hqo := ZM q
  have hkw := fun ρ => kwrite ρ db k D1 (p : Int) q hk64 hk
  have hpv : C[off + i * 1]? = some (.int .i64 (p : Int)) := hc
  repeat' (first | (refine ZV ?_; refine Zy (Zc rfl) rfl rfl ?_) | (refine Zf ?_; first | (refine Ze ?_; refine qQ ?_) | refine Zk ?_) | refine Za ?_ | (refine Zg ?_; refine Zu ?_) | (refine Zh ?_; refine Zv ?_) | intro _)
  rename_i b8
  by_cases he : (D1.write (p : Int) q).2 = 0
  ·rw [if_pos he] at hg
   rw [he] at hkw
   refine ZA (Zo _ _ ([[(mb, .cells ⟨mdV db h w br no⟩ 38 (0, 0))], [(b8, .cells ⟨q.map ZE⟩ 48 (0, 0))]])) (Zn (hT := tk) (Hp.le_refl _)) ?_
   all_goals (refine ZL 0 ?_; refine rNc 1 ?_; refine ZU 2 ?_; refine ZX 3 ?_; refine ZL 4 ?_; refine ZL 5 ?_; refine rIa 6 ?_; refine ZX 7 ?_; refine ZX 8 ?_)
   all_goals (refine Zp (i := 9) ?_; ((try refine Zl ?_); (first | (refine Zb (.func 59) ?_; refine qC rfl rfl ((hkw _)) ?_; rintro v ρ' L' hle ⟨rfl, rfl, k3, hk3, rfl⟩ <;> (try simp only [kM, kN, kO])) | (refine Zk ?_; try intro _)) <;> ((try simp only [kM, kN, kO]); refine Za ?_; refine Zm ?_)))
   all_goals (refine ZN ?_; refine rAs 10 ?_; refine ZH ?_)
   all_goals (repeat' (first | (refine ZV ?_; refine Zy (Zc rfl) rfl rfl ?_) | (refine Zf ?_; first | (refine Ze ?_; refine qQ ?_) | refine Zk ?_) | refine Za ?_ | (refine Zg ?_; refine Zu ?_) | (refine Zh ?_; refine Zv ?_) | intro _))
   all_goals refine ZI (i + 1, k3, _) (⟨hlt, hk3, hg⟩) Zx Zx rfl tk inferInstance (by first | omega | (dsimp only; omega))
  ·rw [if_neg he] at hg
   refine ZA (Zo _ _ ([[(mb, .cells ⟨mdV db h w br no⟩ 38 (0, 0))], [(b8, .cells ⟨q.map ZE⟩ 48 (0, 0))]])) (Zn (hT := tk) (Hp.le_refl _)) ?_
   all_goals (refine ZL 0 ?_; refine rNc 1 ?_; refine ZU 2 ?_; refine ZX 3 ?_; refine ZL 4 ?_; refine ZL 5 ?_; refine rIa 6 ?_; refine ZX 7 ?_; refine ZX 8 ?_)
   all_goals (refine Zp (i := 9) ?_; ((try refine Zl ?_); (first | (refine Zb (.func 59) ?_; refine qC rfl rfl ((hkw _)) ?_; rintro v ρ' L' hle ⟨rfl, rfl, k3, hk3, rfl⟩ <;> (try simp only [kM, kN, kO])) | (refine Zk ?_; try intro _)) <;> ((try simp only [kM, kN, kO]); refine Za ?_; refine Zm ?_)))
   all_goals (refine ZN ?_; refine rAs 10 ?_; refine ZH ?_)
   generalize D1.write (p : Int) q = Z at *
   subst hg
   all_goals (repeat' (first | (refine ZV ?_; refine Zy (Zc rfl) rfl rfl ?_) | (refine Zf ?_; first | (refine Ze ?_; refine qQ ?_) | refine Zk ?_) | refine Za ?_ | (refine Zg ?_; refine Zu ?_) | (refine Zh ?_; refine Zv ?_) | intro _))
   all_goals exact qE (L' := [[(mb, .cells ⟨mdV db h w br no⟩ 38 (0, 0))]] ++ Zi db k3 Z.1) ⟨rfl, Hp.le_refl _, k3, hk3, rfl⟩
 ·have hin : i = n := by omega
  rw [List.drop_of_length_le (by omega), List.zip_nil_left, DS.lays] at hg
  repeat' (first | (refine Zb (.func 60) ?_; refine qC rfl rfl (ksync _ db k D1 hk) ?_; rintro v ρ' L' hle ⟨rfl, hl3, k3, hk3, rfl⟩ <;> (try simp only [kM, kN, kO])) | (refine ZV ?_; refine Zy (Zc rfl) rfl rfl ?_) | (refine Zf ?_; first | (refine Ze ?_; refine qQ ?_) | refine Zk ?_) | refine Za ?_ | (refine Zg ?_; refine Zu ?_) | (refine Zh ?_; refine Zv ?_) | intro _)
  rw [hg] at hk3 ⊢
  exact qE (L' := [[(mb, .cells ⟨mdV db h w br no⟩ 38 (0, 0))]] ++ Zi db k3 G.1) ⟨rfl, hl3, k3, hk3, rfl⟩
theorem sIn_lit {ρ : Hp} {b : Nat} {p : Nat} {T : TypeId} {fr : Nat × Nat} (h : ρ b = some (.cells ⟨[.int .i64 (p : Int)]⟩ T fr)) : SIn ρ nv (some ⟨b, 0, none⟩) 1 [p] := ⟨rfl, .inr ⟨b, 0, _, _, _, rfl, h, rfl⟩⟩
theorem aIn_lit {ρ : Hp} {b : Nat} {q : Blk} {T : TypeId} {fr : Nat × Nat} (hq : q.length = 64) (h : ρ b = some (.cells ⟨q.map ZE⟩ T fr)) : AIn ρ 64 (fun b : Blk => b.map ZE) (some ⟨b, 0, none⟩) 1 [q] := by
 refine ⟨rfl, .inr ⟨b, 0, _, _, _, rfl, h, by simp [hq], ?_⟩, fun x hx => by rw [List.mem_singleton.1 hx]; simpa using hq⟩
 simp only [Nat.one_mul, List.drop_zero, List.map_cons, List.map_nil, List.flatten_cons, List.flatten_nil, List.append_nil]
 exact List.take_of_length_le (by simp [hq])
theorem head_spec (ρ : Hp) (mb db : Nat) (h0 : Hd) (w : MW) (br no : Bool) (h : Hd) (na : Option Addr) (nn nc : Nat) (hn : SIn ρ ZE na nn h.note) (ht : h.turn < 4294967296) (hf : h.first ≤ 1099511627776) (hs : h.size < 65536) (hp : h.place < 65536) (hnl : nn ≤ 32) (k : DK) (D : DS) (hD : DOk k D) :
  Spec Try.prog 47 [.pointer (some ⟨mb, 0, none⟩), .agg ⟨rhV h na nn nc⟩] ρ ([[(mb, .cells ⟨mdV db h0 w br no⟩ 38 (0, 0))]] ++ Zi db k D)
   (fun v ρ' L' => v = .int .i64 (DS.lays (ZQ h) D).2 ∧ ρ.le ρ' ∧ ∃ k', DOk k' (DS.lays (ZQ h) D).1 ∧ L' = [[(mb, .cells ⟨mdV db h0 w br no⟩ 38 (0, 0))]] ++ Zi db k' (DS.lays (ZQ h) D).1) := by
 have hhl : (Yk h).length = 64 := Xq h
 have hmod : ((h.turn : Nat) : Int).tmod 2 = ((h.turn % 2 : Nat) : Int) := by
  rw [Int.tmod_eq_emod_of_nonneg (by omega), Int.natCast_emod]; rfl
 have hblk := fun ρ hn => block04H_spec ρ h na nn nc hn ht hf hs hp hnl
 have hZ : [h.turn % 2].zip [Yk h] = ZQ h := rfl
 have hm2 : h.turn % 2 < 2 := Nat.mod_lt _ (by decide)
 have hm0 : 0 ≤ ((h.turn : Nat) : Int).tmod 2 := by rw [hmod]; omega
 have hm1 : ((h.turn : Nat) : Int).tmod 2 < 2 := by rw [hmod]; omega
 generalize h.turn % 2 = p at *
 generalize ZQ h = Z at *
 generalize Yk h = q at *
 refine Zd Try.func47 rfl rfl rfl fun u R => ?_
 simp only [Zw, List.cons_append, List.nil_append]
 repeat' (first | (refine ZV ?_; refine Zy (Zc rfl) rfl rfl ?_) | (refine Zf ?_; first | (refine Ze ?_; refine qQ ?_) | refine Zk ?_) | refine Za ?_ | (refine Zg ?_; refine Zu ?_) | (refine Zh ?_; refine Zv ?_) | intro _)
 rename_i b3
 have hρ := Hp.le_refl ρ
 refine ZA (Zo _ _ ([[(b3, .cells ⟨rhV h na nn nc⟩ 32 (0, 0))]])) (Zn (hT := tk) (Hp.le_refl _)) ?_
 all_goals (refine ZL 0 ?_; refine ZU 1 ?_; refine ZX 2 ?_; refine rRm 3 ?_; refine rCv 4 ?_; refine ZX 6 ?_)
 all_goals (refine YV (i := 5) (j := 7) ?_ ?_ <;> ((try refine Zl ?_); (first | (refine Xa (sz := 64) (vs := [bv q]) (css := [q.map ZE]) rfl rfl rfl rfl (by simpa using hhl) (by simp) rfl (fun c8 => ?_); refine Yd _ (h := Rem.here) (fun ρ8 hl8 hfz8 => ?_); have hb8 : ρ8 c8 = some (.cells ⟨q.map ZE⟩ 48 (0, 0)) := (by simpa using hfz8 _ (List.mem_singleton.2 rfl)); replace hρ := Hp.le_trans hρ hl8; replace hn := hn.mono hl8; (try replace hb5 := YT hl8 hb5); clear hfz8) | (simp only [hmod]; refine Zq rfl rfl rfl rfl (by simp) rfl rfl (fun c5 => ?_); refine Yd _ (h := Rem.here) (fun ρ5 hl5 hfz5 => ?_); have hb5 : ρ5 c5 = some (.cells ⟨[.int .i64 (p : Int)]⟩ 3 (0, 0)) := (by simpa using hfz5 _ (List.mem_singleton.2 rfl)); replace hρ := Hp.le_trans hρ hl5; replace hn := hn.mono hl5; (try replace hb8 := YT hl5 hb8); clear hfz5) | (refine Zb (.func 65) ?_; refine qC rfl rfl (hblk _ hn) ?_; rintro v7 ρ7 L7 hle7 ⟨rfl, hl7, rfl⟩; simp only [List.cons_append, List.nil_append]; replace hρ := Hp.le_trans hρ hl7; replace hn := hn.mono hl7; (try replace hb5 := YT hl7 hb5)) | (refine Zk ?_; try intro _)) <;> ((try simp only [kM, kN, kO]); refine Za ?_; refine Zm ?_)))
 all_goals (first | (refine Zp (i := 7) ?_; ((try refine Zl ?_); (first | (refine Zb (.func 65) ?_; refine qC rfl rfl (hblk _ hn) ?_; rintro v7 ρ7 L7 hle7 ⟨rfl, hl7, rfl⟩; simp only [List.cons_append, List.nil_append]; replace hρ := Hp.le_trans hρ hl7; replace hn := hn.mono hl7; (try replace hb5 := YT hl7 hb5)) | (refine Zk ?_; try intro _)) <;> ((try simp only [kM, kN, kO]); refine Za ?_; refine Zm ?_))) | (refine YV (i := 5) (j := 8) ?_ ?_ <;> ((try refine Zl ?_); (first | (refine Xa (sz := 64) (vs := [bv q]) (css := [q.map ZE]) rfl rfl rfl rfl (by simpa using hhl) (by simp) rfl (fun c8 => ?_); refine Yd _ (h := Rem.here) (fun ρ8 hl8 hfz8 => ?_); have hb8 : ρ8 c8 = some (.cells ⟨q.map ZE⟩ 48 (0, 0)) := (by simpa using hfz8 _ (List.mem_singleton.2 rfl)); replace hρ := Hp.le_trans hρ hl8; replace hn := hn.mono hl8; (try replace hb5 := YT hl8 hb5); clear hfz8) | (simp only [hmod]; refine Zq rfl rfl rfl rfl (by simp) rfl rfl (fun c5 => ?_); refine Yd _ (h := Rem.here) (fun ρ5 hl5 hfz5 => ?_); have hb5 : ρ5 c5 = some (.cells ⟨[.int .i64 (p : Int)]⟩ 3 (0, 0)) := (by simpa using hfz5 _ (List.mem_singleton.2 rfl)); replace hρ := Hp.le_trans hρ hl5; replace hn := hn.mono hl5; (try replace hb8 := YT hl5 hb8); clear hfz5) | (refine Zk ?_; try intro _)) <;> ((try simp only [kM, kN, kO]); refine Za ?_; refine Zm ?_))))
 all_goals (first | (refine Zp (i := 8) ?_; ((try refine Zl ?_); (first | (refine Xa (sz := 64) (vs := [bv q]) (css := [q.map ZE]) rfl rfl rfl rfl (by simpa using hhl) (by simp) rfl (fun c8 => ?_); refine Yd _ (h := Rem.here) (fun ρ8 hl8 hfz8 => ?_); have hb8 : ρ8 c8 = some (.cells ⟨q.map ZE⟩ 48 (0, 0)) := (by simpa using hfz8 _ (List.mem_singleton.2 rfl)); replace hρ := Hp.le_trans hρ hl8; replace hn := hn.mono hl8; (try replace hb5 := YT hl8 hb5); clear hfz8) | (simp only [hmod]; refine Zq rfl rfl rfl rfl (by simp) rfl rfl (fun c5 => ?_); refine Yd _ (h := Rem.here) (fun ρ5 hl5 hfz5 => ?_); have hb5 : ρ5 c5 = some (.cells ⟨[.int .i64 (p : Int)]⟩ 3 (0, 0)) := (by simpa using hfz5 _ (List.mem_singleton.2 rfl)); replace hρ := Hp.le_trans hρ hl5; replace hn := hn.mono hl5; (try replace hb8 := YT hl5 hb8); clear hfz5) | (refine Zk ?_; try intro _)) <;> ((try simp only [kM, kN, kO]); refine Za ?_; refine Zm ?_))) | (refine Zp (i := 5) ?_; ((try refine Zl ?_); (first | (refine Xa (sz := 64) (vs := [bv q]) (css := [q.map ZE]) rfl rfl rfl rfl (by simpa using hhl) (by simp) rfl (fun c8 => ?_); refine Yd _ (h := Rem.here) (fun ρ8 hl8 hfz8 => ?_); have hb8 : ρ8 c8 = some (.cells ⟨q.map ZE⟩ 48 (0, 0)) := (by simpa using hfz8 _ (List.mem_singleton.2 rfl)); replace hρ := Hp.le_trans hρ hl8; replace hn := hn.mono hl8; (try replace hb5 := YT hl8 hb5); clear hfz8) | (simp only [hmod]; refine Zq rfl rfl rfl rfl (by simp) rfl rfl (fun c5 => ?_); refine Yd _ (h := Rem.here) (fun ρ5 hl5 hfz5 => ?_); have hb5 : ρ5 c5 = some (.cells ⟨[.int .i64 (p : Int)]⟩ 3 (0, 0)) := (by simpa using hfz5 _ (List.mem_singleton.2 rfl)); replace hρ := Hp.le_trans hρ hl5; replace hn := hn.mono hl5; (try replace hb8 := YT hl5 hb8); clear hfz5) | (refine Zk ?_; try intro _)) <;> ((try simp only [kM, kN, kO]); refine Za ?_; refine Zm ?_))))
 all_goals (refine Zp (i := 9) ?_; ((try refine Zl ?_); (first | (refine Zb (.func 54) ?_; refine qC rfl rfl (writes_spec _ mb db h0 w br no _ 1 1 [p] (sIn_lit hb5) _ 1 [q] (aIn_lit hhl hb8) (fun b hb => by rw [List.mem_singleton.1 hb]; exact hhl) (by omega) k D hD) ?_; rw [hZ]; rintro v9 ρ9 L9 hle9 ⟨rfl, hl9, k9, hk9, rfl⟩; simp only [List.cons_append, List.nil_append]; replace hρ := Hp.le_trans hρ hl9) | (refine Zk ?_; try intro _)) <;> ((try simp only [kM, kN, kO]); refine Za ?_; refine Zm ?_)))
 all_goals (refine ZN ?_; refine rAs 10 ?_; refine ZH ?_)
 all_goals (repeat' (first | (refine ZV ?_; refine Zy (Zc rfl) rfl rfl ?_) | (refine Zf ?_; first | (refine Ze ?_; refine qQ ?_) | refine Zk ?_) | refine Za ?_ | (refine Zg ?_; refine Zu ?_) | (refine Zh ?_; refine Zv ?_) | intro _))
 all_goals exact qE (L' := [[(mb, .cells ⟨mdV db h0 w br no⟩ 38 (0, 0))]] ++ Zi db k9 (DS.lays Z D).1) ⟨rfl, hρ, k9, hk9, rfl⟩
structure MIn (ρ : Hp) (h : Hd) (w : MW) : Prop where
 note : SIn ρ ZE w.na w.nn h.note
 nle : w.nn ≤ w.nc
 n32 : w.nn ≤ 32
 ents : SIn ρ slv w.ea w.els.length w.els
 ele : w.els.length ≤ w.ec
 bin : ∀ e ∈ w.els, BIn ρ e
 lon : ∀ e ∈ w.els, e.n ≤ 8000
theorem MIn.mono {ρ ρ' : Hp} {h : Hd} {w : MW} (m : MIn ρ h w) (hl : ρ.le ρ') : MIn ρ' h w := ⟨m.note.mono hl, m.nle, m.n32, m.ents.mono hl, m.ele, fun e he => (m.bin e he).mono hl, m.lon⟩
def mdAns (ρ' : Hp) (mb db : Nat) (h : Hd) (w : MW) (br no : Bool) (r : Option RgS × DS × Int) (v : Value) (L' : SH) : Prop :=
 ∃ k', DOk k' r.2.1 ∧ v = .int .i64 r.2.2 ∧ match r.1 with
  | none => L' = [[(mb, .cells ⟨mdV db h w br no⟩ 38 (0, 0))]] ++ Zi db k' r.2.1
  | some R => ∃ w', MIn ρ' R.h w' ∧ w'.els.map BSl.l = R.ents ∧ L' = [[(mb, .cells ⟨mdV db R.h w' R.broken false⟩ 38 (0, 0))]] ++ Zi db k' r.2.1
theorem aIn_zeros {ρ : Hp} {b n : Nat} {T : TypeId} {fr : Nat × Nat} (h : ρ b = some (.cells ⟨List.replicate (n * 64) (.int .u8 0)⟩ T fr)) : AIn ρ 64 (fun b : Blk => b.map ZE) (some ⟨b, 0, none⟩) n (List.replicate n Yv) := by
 have hz : Yv.map ZE = List.replicate 64 (Value.int .u8 0) := rfl
 refine ⟨by simp, .inr ⟨b, 0, _, _, _, rfl, h, by simp, ?_⟩, fun x hx => by obtain ⟨_, rfl⟩ := List.mem_replicate.1 hx; rfl⟩
 rw [List.drop_zero, List.take_of_length_le (by simp), List.map_replicate, hz, List.flatten_replicate_replicate]
theorem zip_noughts (n : Nat) : (List.range (n + 2)).zip (List.replicate (n + 2) Yv) = ZG n := by
 unfold ZG
 apply List.ext_getElem
 ·simp
 ·intro j h1 h2
  simp
abbrev zMW : MW := ⟨none, 0, 0, none, 0, [], none, 0, 0⟩
theorem format04_spec (ρ : Hp) (mb db : Nat) (h : Hd) (w : MW) (br no : Bool) (k : DK) (D : DS) (hD : DOk k D) (size : Int) (hs : -9223372036854775808 ≤ size ∧ size ≤ 9223372036854775807) :
  Spec Try.prog 21 [.pointer (some ⟨mb, 0, none⟩), .int .i64 size] ρ ([[(mb, .cells ⟨mdV db h w br no⟩ 38 (0, 0))]] ++ Zi db k D) (fun v ρ' L' => ρ.le ρ' ∧ mdAns ρ' mb db h w br no (Yj size D) v L') := by
 by_cases h1 : size < 4
 ·have he : Yj size D = (none, D, 2) := by unfold Yj; rw [if_pos (.inl h1)]
  rw [he]
  refine Zd Try.func21 rfl rfl rfl fun u R => ?_
  simp only [Zw, List.cons_append, List.nil_append]
  repeat' (first | (refine Zb (.func 36) ?_; refine qC rfl rfl (klen _ db k D) ?_; rintro v ρ' L' hle ⟨rfl, rfl, rfl⟩ <;> (try simp only [kM, kN, kO])) | (refine ZV ?_; refine Zy (Zc rfl) rfl rfl ?_) | (refine Zf ?_; first | (refine Ze ?_; refine qQ ?_) | refine Zk ?_) | refine Za ?_ | (refine Zg ?_; refine Zu ?_) | (refine Zh ?_; refine Zv ?_) | intro _)
  exact qE (L' := [[(mb, .cells ⟨mdV db h w br no⟩ 38 (0, 0))]] ++ Zi db k D) ⟨Hp.le_refl _, k, hD, rfl, rfl⟩
 ·by_cases h2 : 1000 < size
  ·have he : Yj size D = (none, D, 2) := by unfold Yj; rw [if_pos (.inr (.inl h2))]
   rw [he]
   refine Zd Try.func21 rfl rfl rfl fun u R => ?_
   simp only [Zw, List.cons_append, List.nil_append]
   repeat' (first | (refine Zb (.func 36) ?_; refine qC rfl rfl (klen _ db k D) ?_; rintro v ρ' L' hle ⟨rfl, rfl, rfl⟩ <;> (try simp only [kM, kN, kO])) | (refine ZV ?_; refine Zy (Zc rfl) rfl rfl ?_) | (refine Zf ?_; first | (refine Ze ?_; refine qQ ?_) | refine Zk ?_) | refine Za ?_ | (refine Zg ?_; refine Zu ?_) | (refine Zh ?_; refine Zv ?_) | intro _)
   exact qE (L' := [[(mb, .cells ⟨mdV db h w br no⟩ 38 (0, 0))]] ++ Zi db k D) ⟨Hp.le_refl _, k, hD, rfl, rfl⟩
  ·by_cases h3 : (D.secs.length : Int) < size + 2
   ·have he : Yj size D = (none, D, 2) := by unfold Yj; rw [if_pos (.inr (.inr h3))]
    rw [he]
    refine Zd Try.func21 rfl rfl rfl fun u R => ?_
    simp only [Zw, List.cons_append, List.nil_append]
    repeat' (first | (refine Zb (.func 36) ?_; refine qC rfl rfl (klen _ db k D) ?_; rintro v ρ' L' hle ⟨rfl, rfl, rfl⟩ <;> (try simp only [kM, kN, kO])) | (refine ZV ?_; refine Zy (Zc rfl) rfl rfl ?_) | (refine Zf ?_; first | (refine Ze ?_; refine qQ ?_) | refine Zk ?_) | refine Za ?_ | (refine Zg ?_; refine Zu ?_) | (refine Zh ?_; refine Zv ?_) | intro _)
    exact qE (L' := [[(mb, .cells ⟨mdV db h w br no⟩ 38 (0, 0))]] ++ Zi db k D) ⟨Hp.le_refl _, k, hD, rfl, rfl⟩
   ·obtain ⟨n, rfl⟩ : ∃ n : Nat, size = n := ⟨size.toNat, by omega⟩
    have hn0 : 4 ≤ n := by omega
    have hn1 : n ≤ 1000 := by omega
    have he : Yj n D = if (DS.lays (ZG n) D).2 = 0 then
      if (DS.lays (ZQ (ZK n)) (DS.lays (ZG n) D).1).2 = 0 then (some ⟨ZK n, [], 0, false⟩, DS.lays (ZQ (ZK n)) (DS.lays (ZG n) D).1) else (none, DS.lays (ZQ (ZK n)) (DS.lays (ZG n) D).1)
     else (none, DS.lays (ZG n) D) := by unfold Yj; rw [if_neg (by omega)]; simp only [Int.toNat_natCast]
    generalize Yj (n : Int) D = RES at *
    refine Zd Try.func21 rfl rfl rfl fun u R => ?_
    simp only [Zw, List.cons_append, List.nil_append]
    have hn2 : (n : Int) + 2 = ((n + 2 : Nat) : Int) := by omega
    repeat' (first | (refine Zb (.func 36) ?_; refine qC rfl rfl (klen _ db k D) ?_; rintro v ρ' L' hle ⟨rfl, rfl, rfl⟩ <;> (try simp only [kM, kN, kO])) | (refine ZV ?_; refine Zy (Zc rfl) rfl rfl ?_) | (refine Zf ?_; first | (refine Ze ?_; refine qQ ?_) | refine Zk ?_) | refine Za ?_ | (refine Zg ?_; refine Zu ?_) | (refine Zh ?_; refine Zv ?_) | intro _)
    rw [hn2]
    refine ZP [(0, _), (1, _), (4, _), (27, _)] (fun (ζ : (Nat) × (Value) × (List Value)) => [(28, .int .i64 ζ.1), (5, ζ.2.1)]) (fun (ζ : (Nat) × (Value) × (List Value)) => ρ') (fun (ζ : (Nat) × (Value) × (List Value)) => [ZO ζ.2.1 ((List.range ζ.1).map nv) ζ.2.2 3] ++ ([[(mb, .cells ⟨mdV db h w br no⟩ 38 (0, 0))]] ++ Zi db k D)) (fun (ζ : (Nat) × (Value) × (List Value)) => ζ.1 ≤ n + 2 ∧ OwnS ζ.2.1 ζ.1 ((List.range ζ.1).map nv) ζ.2.2 1) (fun (ζ : (Nat) × (Value) × (List Value)) => n + 2 - ζ.1) ((0, .slice none 0 0, [])) (⟨Nat.zero_le _, OwnS.nil 1⟩) Zx Zx rfl tk ?_
    rintro ⟨i, va, sp⟩ hI
    try simp only [List.cons_append, List.nil_append, List.append_assoc, List.append_eq] at hI ⊢
    try dsimp only at hI ⊢
    obtain ⟨hi, hown⟩ := hI
    obtain ⟨aa, ac, rfl, hac⟩ := hown.slice
    by_cases hlt : i < n + 2
    ·have hnx : (List.range i).map nv ++ [nv i] = (List.range (i + 1)).map nv := by rw [List.range_succ]; simp
     repeat' (first | (refine Zq rfl rfl rfl rfl (by simp) rfl rfl (fun _ => ?_)) | (refine Xv (ys := [nv i]) (m := 1) rfl rfl hown (hR := by infer_instance) SrcV.lit rfl rfl (by decide) rfl (by omega) (by omega) rfl (fun v9 sp9 hown9 => ?_); rw [hnx] at hown9 ⊢) | (refine ZV ?_; refine Zy (Zc rfl) rfl rfl ?_) | (refine Zf ?_; first | (refine Ze ?_; refine qQ ?_) | refine Zk ?_) | refine Za ?_ | (refine Zg ?_; refine Zu ?_) | (refine Zh ?_; refine Zv ?_) | intro _)
     refine ZI (i + 1, v9, sp9) (⟨hlt, hown9⟩) Zx Zx rfl tk inferInstance (by first | omega | (dsimp only; omega))
    ·have hin : i = n + 2 := by omega
     subst hin
     refine YZ (ZO (.slice aa (n + 2) ac) ((List.range (n + 2)).map nv) sp 3) (h := by infer_instance) (fun ρ5 hl5 hfz5 => ?_)
     obtain ⟨a5, c5, e5, hc5, hs5⟩ := hown.sIn hfz5
     cases e5
     repeat' (first | (refine Xc rfl rfl (by omega) (by omega) (by omega) (by omega) rfl (fun hbn => ?_); simp only [hn2, Value.cells, madeCells_rep _ 64 _ (by decide), Int.toNat_natCast]) | (refine ZV ?_; refine Zy (Zc rfl) rfl rfl ?_) | (refine Zf ?_; first | (refine Ze ?_; refine qQ ?_) | refine Zk ?_) | refine Za ?_ | (refine Zg ?_; refine Zu ?_) | (refine Zh ?_; refine Zv ?_) | intro _)
     refine Yd [(hbn, .cells ⟨List.replicate ((n + 2) * 64) (.int .u8 0)⟩ 48 (0, 0))] (h := by infer_instance) (fun ρ6 hl6 hfz6 => ?_)
     have hbz := hfz6 _ (List.mem_singleton.2 rfl)
     dsimp only at hbz
     have hwr := writes_spec ρ6 mb db h w br no aa (n + 2) ac _ (hs5.mono hl6) _ (n + 2) _ (aIn_zeros hbz) (fun b hb => by obtain ⟨_, rfl⟩ := List.mem_replicate.1 hb; rfl) (by omega) k D hD
     rw [zip_noughts] at hwr
     by_cases e0 : (DS.lays (ZG n) D).2 = 0
     ·rw [if_pos e0] at he
      rw [e0] at hwr
      have hhd := fun ρ k hk => head_spec ρ mb db h w br no (ZK n) none 0 0 SIn.nil (by unfold ZK; dsimp only; omega) (by unfold ZK; dsimp only; omega) (by unfold ZK; dsimp only; omega) (by unfold ZK; dsimp only; omega) (by omega) k (DS.lays (ZG n) D).1 hk
      by_cases e1 : (DS.lays (ZQ (ZK n)) (DS.lays (ZG n) D).1).2 = 0
      ·rw [if_pos e1] at he
       rw [e1] at hhd
       repeat' (first | (refine Zb (.func 54) ?_; refine qC rfl rfl (hwr) ?_; rintro v ρ' L' hle ⟨rfl, hl7, k7, hk7, rfl⟩ <;> (try simp only [kM, kN, kO])) | (refine Zb (.func 47) ?_; refine qC rfl rfl ((hhd _ k7 hk7)) ?_; rintro v ρ' L' hle ⟨rfl, hl8, k8, hk8, rfl⟩ <;> (try simp only [kM, kN, kO])) | (refine ZV ?_; refine Zy (Zc rfl) rfl rfl ?_) | (refine Zf ?_; first | (refine Ze ?_; refine qQ ?_) | refine Zk ?_) | refine Za ?_ | (refine Zg ?_; refine Zu ?_) | (refine Zh ?_; refine Zv ?_) | intro _)
       subst he
       have hfin := Hp.le_trans hl5 (Hp.le_trans hl6 (Hp.le_trans hl7 hl8))
       exact qE (v := .int .i64 0) (L' := [[(mb, .cells ⟨mdV db (ZK n) zMW false false⟩ 38 (0, 0))]] ++ Zi db k8 (DS.lays (ZQ (ZK n)) (DS.lays (ZG n) D).1).1) ⟨hfin, k8, hk8, by dsimp only; rw [e1], zMW, ⟨SIn.nil, Nat.le_refl _, Nat.zero_le _, SIn.nil, Nat.le_refl _, fun e he => by simp at he, fun e he => by simp at he⟩, rfl, rfl⟩
      ·rw [if_neg e1] at he
       repeat' (first | (refine Zb (.func 54) ?_; refine qC rfl rfl (hwr) ?_; rintro v ρ' L' hle ⟨rfl, hl7, k7, hk7, rfl⟩ <;> (try simp only [kM, kN, kO])) | (refine Zb (.func 47) ?_; refine qC rfl rfl ((hhd _ k7 hk7)) ?_; rintro v ρ' L' hle ⟨rfl, hl8, k8, hk8, rfl⟩ <;> (try simp only [kM, kN, kO])) | (refine ZV ?_; refine Zy (Zc rfl) rfl rfl ?_) | (refine Zf ?_; first | (refine Ze ?_; refine qQ ?_) | refine Zk ?_) | refine Za ?_ | (refine Zg ?_; refine Zu ?_) | (refine Zh ?_; refine Zv ?_) | intro _)
       subst he
       have hfin := Hp.le_trans hl5 (Hp.le_trans hl6 (Hp.le_trans hl7 hl8))
       exact qE (L' := [[(mb, .cells ⟨mdV db h w br no⟩ 38 (0, 0))]] ++ Zi db k8 (DS.lays (ZQ (ZK n)) (DS.lays (ZG n) D).1).1) ⟨hfin, k8, hk8, rfl, rfl⟩
     ·rw [if_neg e0] at he
      repeat' (first | (refine Zb (.func 54) ?_; refine qC rfl rfl (hwr) ?_; rintro v ρ' L' hle ⟨rfl, hl7, k7, hk7, rfl⟩ <;> (try simp only [kM, kN, kO])) | (refine ZV ?_; refine Zy (Zc rfl) rfl rfl ?_) | (refine Zf ?_; first | (refine Ze ?_; refine qQ ?_) | refine Zk ?_) | refine Za ?_ | (refine Zg ?_; refine Zu ?_) | (refine Zh ?_; refine Zv ?_) | intro _)
      subst he
      have hfin := Hp.le_trans hl5 (Hp.le_trans hl6 hl7)
      exact qE (L' := [[(mb, .cells ⟨mdV db h w br no⟩ 38 (0, 0))]] ++ Zi db k7 (DS.lays (ZG n) D).1) ⟨hfin, k7, hk7, rfl, rfl⟩
end Go.Proofs.E
namespace Go.Proofs.E
open Go Go.RowKit
set_option linter.unusedVariables false
set_option linter.unusedSimpArgs false
set_option linter.unusedSectionVars false
set_option maxRecDepth 8000
section
variable {H : Type} {enc : TypeId × Value → H} {w : World}
theorem opn_boolK : Opn enc Try.prog w 4 (fun cs (b : Bool) => cs = [bb b] ∧ True) := (opn_bool Try.underlying4).mono (fun cs b h => ⟨b, h, trivial⟩)
theorem opn_bytesB : Opn enc Try.prog w 30 (fun cs (e : BSl) => cs = [slv e] ∧ (BIn (hpOf w) e ∧ e.n ≤ 9223372036854775807)) := opn_bsl
theorem opn_boolsK : Opn enc Try.prog w 40 (fun cs (s : Option Addr × Nat × Nat × List Bool) => cs = [.slice s.1 s.2.1 s.2.2.1] ∧ (SIn (hpOf w) bb s.1 s.2.1 s.2.2.2 ∧ s.2.1 ≤ s.2.2.1 ∧ s.2.1 ≤ 9223372036854775807)) :=
 (opn_slice (sz := 1) Try.underlying40 (by kernel_rfl) (by decide) opn_boolK).mono (fun cs s h => by
  obtain ⟨h1, _, h3, h4⟩ := aIn_ofK (g := fun b : Bool => [bb b]) (P := fun _ => True) (fun _ => rfl) h
  exact ⟨s, h.cells, sIn_of1 h1, h3, h4⟩)
theorem opn_event : Opn enc Try.prog w 42 (fun cs (e : EvV) => cs = evC e ∧ EvIn (hpOf w) e) := fun fuel cs x h => by
 obtain ⟨hl, hf⟩ := opn_fields Try.underlying42 h
 have hl : cs.length = 5 := by rw [hl]; kernel_rfl
 obtain ⟨c0, c1, c2, c3, c4, rfl⟩ : ∃ c0 c1 c2 c3 c4, cs = [c0, c1, c2, c3, c4] := by
  match cs, hl with
  | [c0, c1, c2, c3, c4], _ => exact ⟨c0, c1, c2, c3, c4, rfl⟩
 obtain ⟨k, h0, k0, k1⟩ := opn_field h Try.underlying42 0 0 1 rfl rfl rfl (by kernel_rfl) (opn_int Try.underlying3)
 obtain ⟨n, h1, n0, n1⟩ := opn_field h Try.underlying42 1 1 1 rfl rfl rfl (by kernel_rfl) (opn_int Try.underlying3)
 obtain ⟨b, h2, b0, b1⟩ := opn_field h Try.underlying42 2 2 1 rfl rfl rfl (by kernel_rfl) opn_bytesB
 obtain ⟨t, h3, t0, t1⟩ := opn_field h Try.underlying42 3 3 1 rfl rfl rfl (by kernel_rfl) opn_bytesB
 obtain ⟨⟨ka, kn, kp, ks⟩, h4, s0, s1, s2⟩ := opn_field h Try.underlying42 4 4 1 rfl rfl rfl (by kernel_rfl) opn_boolsK
 simp only [List.drop_zero, List.drop_succ_cons, List.take_succ_cons, List.take_zero, List.cons.injEq, and_true] at h0 h1 h2 h3 h4
 subst h0; subst h1; subst h2; subst h3; subst h4
 exact ⟨⟨k, n, b, t, ka, kn, kp, ks⟩, rfl, ⟨⟨n0, n1⟩, ⟨k0, k1⟩, b0, b1, t0, t1, s0, s1, s2⟩⟩
end
end Go.Proofs.E
namespace Go.Proofs.E
open Go
set_option linter.unusedVariables false
set_option linter.unusedSimpArgs false
set_option linter.unusedSectionVars false
set_option maxRecDepth 4000
set_option maxHeartbeats 1000000
attribute [local irreducible] Yl TL TC TE Spec Xt R1 Hp.le EnvLe TS TR YS Zo
theorem counts_spec (ρ : Hp) (s t : Blk) (hs : s.length = 64) (ht : t.length = 64) :
  Spec Try.prog 49 [bv s, bv t] ρ [] (fun v ρ' L' => ρ.le ρ' ∧ (∃ na nn nc, v = .tuple ⟨[.agg ⟨hdV (Yt s t).1 na nn nc⟩, .bool (Yt s t).2]⟩ ∧ SIn ρ' ZE na nn (Yt s t).1.note ∧ nn ≤ nc ∧ nn ≤ 32) ∧ L' = []) := by
 have hpl : (s.map ZE).length = 64 := by simpa using hs
 have hp1 := ZM s
 have hpl2 : (t.map ZE).length = 64 := by simpa using ht
 have hp2 := ZM t
 have hla : List.take 64 (List.drop 0 (s.map ZE)) = s.map ZE := by rw [List.drop_zero, List.take_of_length_le (by omega)]
 have hlb : List.take 64 (List.drop 0 (t.map ZE)) = t.map ZE := by rw [List.drop_zero, List.take_of_length_le (by omega)]
 have hr1 := hread_spec ρ s hs
 have hct : Yt s t = if (Yr s).2 && (!(Yr t).2 || decide ((Yr t).1.turn ≤ (Yr s).1.turn)) then ((Yr s).1, true) else Yr t := rfl
 have hr2 : ∀ ρ1, Spec Try.prog 66 [bv t] ρ1 [] _ := fun ρ1 => hread_spec ρ1 t ht
 generalize Yr s = A at *
 generalize Yr t = B at *
 generalize Yt s t = C at *
 obtain ⟨a, ab⟩ := A
 obtain ⟨b, bb⟩ := B
 dsimp only at hct hr1 hr2
 cases ab
 ·cases bb
  ·have hC : C = (b, false) := by simpa using hct
   clear hct
   subst hC
   refine Zd Try.func49 rfl rfl rfl fun u RR => ?_
   simp only [Zw, List.cons_append, List.nil_append]
   repeat' (first | (refine Zb (.func 66) ?_; refine qC rfl rfl hr1 ?_; rintro v1 ρ1 L1 hle1 ⟨hl1, ⟨na1, nn1, nc1, rfl, hs1, hc1, hm1⟩, rfl⟩; try simp only [List.cons_append, List.nil_append]) | (refine Zb (.func 66) ?_; refine qC rfl rfl (hr2 _) ?_; rintro v2 ρ2 L2 hle2 ⟨hl2, ⟨na2, nn2, nc2, rfl, hs2, hc2, hm2⟩, rfl⟩; try simp only [List.cons_append, List.nil_append]) | (refine Zf ?_; first | (refine Ze ?_; refine qQ ?_) | refine Zk ?_) | refine Za ?_ | (refine Zg ?_; refine Zu ?_) | (refine Zh ?_; refine Zv ?_) | intro _)
   have hfin := Hp.le_trans hl1 hl2
   exact qE (L' := []) (v := .tuple ⟨[.agg ⟨hdV b na2 nn2 nc2⟩, .bool false]⟩) ⟨hfin, ⟨na2, nn2, nc2, rfl, hs2, hc2, hm2⟩, rfl⟩
  ·have hC : C = (b, true) := by simpa using hct
   clear hct
   subst hC
   refine Zd Try.func49 rfl rfl rfl fun u RR => ?_
   simp only [Zw, List.cons_append, List.nil_append]
   repeat' (first | (refine Zb (.func 66) ?_; refine qC rfl rfl hr1 ?_; rintro v1 ρ1 L1 hle1 ⟨hl1, ⟨na1, nn1, nc1, rfl, hs1, hc1, hm1⟩, rfl⟩; try simp only [List.cons_append, List.nil_append]) | (refine Zb (.func 66) ?_; refine qC rfl rfl (hr2 _) ?_; rintro v2 ρ2 L2 hle2 ⟨hl2, ⟨na2, nn2, nc2, rfl, hs2, hc2, hm2⟩, rfl⟩; try simp only [List.cons_append, List.nil_append]) | (refine Zf ?_; first | (refine Ze ?_; refine qQ ?_) | refine Zk ?_) | refine Za ?_ | (refine Zg ?_; refine Zu ?_) | (refine Zh ?_; refine Zv ?_) | intro _)
   have hfin := Hp.le_trans hl1 hl2
   exact qE (L' := []) (v := .tuple ⟨[.agg ⟨hdV b na2 nn2 nc2⟩, .bool true]⟩) ⟨hfin, ⟨na2, nn2, nc2, rfl, hs2, hc2, hm2⟩, rfl⟩
 ·cases bb
  ·have hC : C = (a, true) := by simpa using hct
   clear hct
   subst hC
   refine Zd Try.func49 rfl rfl rfl fun u RR => ?_
   simp only [Zw, List.cons_append, List.nil_append]
   repeat' (first | (refine Zb (.func 66) ?_; refine qC rfl rfl hr1 ?_; rintro v1 ρ1 L1 hle1 ⟨hl1, ⟨na1, nn1, nc1, rfl, hs1, hc1, hm1⟩, rfl⟩; try simp only [List.cons_append, List.nil_append]) | (refine Zb (.func 66) ?_; refine qC rfl rfl (hr2 _) ?_; rintro v2 ρ2 L2 hle2 ⟨hl2, ⟨na2, nn2, nc2, rfl, hs2, hc2, hm2⟩, rfl⟩; try simp only [List.cons_append, List.nil_append]) | (refine Zf ?_; first | (refine Ze ?_; refine qQ ?_) | refine Zk ?_) | refine Za ?_ | (refine Zg ?_; refine Zu ?_) | (refine Zh ?_; refine Zv ?_) | intro _)
   have hfin := Hp.le_trans hl1 hl2
   exact qE (L' := []) (v := .tuple ⟨[.agg ⟨hdV a na1 nn1 nc1⟩, .bool true]⟩) ⟨hfin, ⟨na1, nn1, nc1, rfl, hs1.mono hl2, hc1, hm1⟩, rfl⟩
  ·by_cases hg : b.turn ≤ a.turn
   ·have hC : C = (a, true) := by simpa [hg] using hct
    clear hct
    subst hC
    refine Zd Try.func49 rfl rfl rfl fun u RR => ?_
    simp only [Zw, List.cons_append, List.nil_append]
    repeat' (first | (refine Zb (.func 66) ?_; refine qC rfl rfl hr1 ?_; rintro v1 ρ1 L1 hle1 ⟨hl1, ⟨na1, nn1, nc1, rfl, hs1, hc1, hm1⟩, rfl⟩; try simp only [List.cons_append, List.nil_append]) | (refine Zb (.func 66) ?_; refine qC rfl rfl (hr2 _) ?_; rintro v2 ρ2 L2 hle2 ⟨hl2, ⟨na2, nn2, nc2, rfl, hs2, hc2, hm2⟩, rfl⟩; try simp only [List.cons_append, List.nil_append]) | (refine Zf ?_; first | (refine Ze ?_; refine qQ ?_) | refine Zk ?_) | refine Za ?_ | (refine Zg ?_; refine Zu ?_) | (refine Zh ?_; refine Zv ?_) | intro _)
    have hfin := Hp.le_trans hl1 hl2
    exact qE (L' := []) (v := .tuple ⟨[.agg ⟨hdV a na1 nn1 nc1⟩, .bool true]⟩) ⟨hfin, ⟨na1, nn1, nc1, rfl, hs1.mono hl2, hc1, hm1⟩, rfl⟩
   ·have hC : C = (b, true) := by simpa [hg] using hct
    clear hct
    subst hC
    refine Zd Try.func49 rfl rfl rfl fun u RR => ?_
    simp only [Zw, List.cons_append, List.nil_append]
    repeat' (first | (refine Zb (.func 66) ?_; refine qC rfl rfl hr1 ?_; rintro v1 ρ1 L1 hle1 ⟨hl1, ⟨na1, nn1, nc1, rfl, hs1, hc1, hm1⟩, rfl⟩; try simp only [List.cons_append, List.nil_append]) | (refine Zb (.func 66) ?_; refine qC rfl rfl (hr2 _) ?_; rintro v2 ρ2 L2 hle2 ⟨hl2, ⟨na2, nn2, nc2, rfl, hs2, hc2, hm2⟩, rfl⟩; try simp only [List.cons_append, List.nil_append]) | (refine Zf ?_; first | (refine Ze ?_; refine qQ ?_) | refine Zk ?_) | refine Za ?_ | (refine Zg ?_; refine Zu ?_) | (refine Zh ?_; refine Zv ?_) | intro _)
    have hfin := Hp.le_trans hl1 hl2
    exact qE (L' := []) (v := .tuple ⟨[.agg ⟨hdV b na2 nn2 nc2⟩, .bool true]⟩) ⟨hfin, ⟨na2, nn2, nc2, rfl, hs2, hc2, hm2⟩, rfl⟩
end Go.Proofs.E
