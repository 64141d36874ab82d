/- Laws of analysis. Part 40 of 41. -/
import Derived.Test.YtkbiahafeoillaaGreatA39
namespace Go.Proofs.E
open Go
set_option linter.unusedVariables false
set_option linter.unusedSimpArgs false
set_option linter.unusedSectionVars false
set_option maxRecDepth 4000
set_option maxHeartbeats 1000000
attribute [local irreducible] Yl TL TC TE Spec Xb R1 Hp.le EnvLe TS TR YS Zk
def overT (t : Tx) : Bool := decide (100 < t.sv.n ∨ 20 < t.mv.n)
def overAB (d : AnD) : Bool := decide (20 < d.rv.n ∨ 80 < d.dv.n) || d.ro.txns.any overT
theorem AnW.ofOver {ρ d} (h : AnW ρ d) (ho : overAB d = false) : AnIn ρ d ∧ d.dv.n ≤ 80 := by
 unfold overAB at ho
 rw [Bool.or_eq_false_iff, decide_eq_false_iff_not] at ho
 exact ⟨h.in' (by omega) (by omega), by omega⟩
theorem over23_spec (ρ : Hp) (d : AnD) (h : AnW ρ d) : Spec Tryz.prog 26 [.agg ⟨anV d⟩] ρ [] (fun z ρ' L' => z = .bool (overAB d) ∧ ρ' = ρ ∧ L' = []) := by
 have hA := h.r.at'.at'
 have hl := hA.len
 have hb1 := h.r.at'.big
 have hb2 := h.d.big
 have htx := h.r.tx
 unfold overAB
 refine Zd Tryz.func26 rfl rfl rfl fun u R => ?_
 simp only [Zo, List.cons_append, List.nil_append]
 by_cases hc : 20 < d.rv.n ∨ 80 < d.dv.n
 ·rw [decide_eq_true hc, Bool.true_or]
  repeat' (first | refine zV ?_ | (refine YL ?_; refine ZB rfl rfl (fun hb => ?_) (fun hb => ?_) <;> (try simp only [decide_eq_true_eq, decide_eq_false_iff_not, Bool.not_eq_true, Bool.not_eq_false, beq_iff_eq, bne_iff_ne, ne_eq, decide_eq_decide, Bool.not_eq_eq_eq_not, Bool.not_true, Bool.not_false, beq_eq_false_iff_ne, bne_eq_false_iff_eq, Bool.and_eq_true, Bool.or_eq_true, Bool.and_eq_false_imp, Bool.or_eq_false_iff, bq2, bqt, bqf] at hb)) | (refine ZS ?_; refine ZM rfl (fun hb => ?_) (fun hb => ?_) <;> (try simp only [decide_eq_true_eq, decide_eq_false_iff_not, Bool.not_eq_true, Bool.not_eq_false, beq_iff_eq, bne_iff_ne, ne_eq, decide_eq_decide, Bool.not_eq_eq_eq_not, Bool.not_true, Bool.not_false, beq_eq_false_iff_ne, bne_eq_false_iff_eq, Bool.and_eq_true, Bool.or_eq_true, Bool.and_eq_false_imp, Bool.or_eq_false_iff, bq2, bqt, bqf] at hb)) | intro _)
  all_goals first | exact qE (L' := []) ⟨rfl, rfl, rfl⟩ | (exfalso; omega)
 ·rw [decide_eq_false hc, Bool.false_or]
  generalize hq : d.ro.txns.any overT = q
  repeat' (first | refine zV ?_ | intro _)
  refine Zq [(18, _), (19, _)] (fun (ζ : (Nat)) => [(20, .int .i64 ζ), (2, .bool false)]) (fun (ζ : (Nat)) => ρ) (fun (ζ : (Nat)) => []) (fun (ζ : (Nat)) => ζ ≤ d.rv.n ∧ (d.ro.txns.drop ζ).any overT = q) (fun (ζ : (Nat)) => d.rv.n - ζ) (0) (⟨Nat.zero_le _, hq⟩) Ze Ze rfl tk ?_
  rintro k hI
  try simp only [List.cons_append, List.nil_append, List.append_assoc, List.append_eq] at hI ⊢
  try dsimp only at hI ⊢
  obtain ⟨hk, hok⟩ := hI
  by_cases hlt : k < d.rv.n
  ·obtain ⟨b, off, C, T, fr, e1, hb, hfit, hcc⟩ := hA.get (show k < d.ro.txns.length by omega)
   have hx := htx _ (List.getElem_mem (show k < d.ro.txns.length by omega))
   rw [List.drop_eq_getElem_cons (show k < d.ro.txns.length by omega), List.any_cons] at hok
   generalize d.ro.txns[k]'(by omega) = x at *
   have g1 := hx.sb
   have g2 := hx.mb
   rw [e1]
   by_cases hx2 : 100 < x.sv.n ∨ 20 < x.mv.n
   ·have hT : overT x = true := decide_eq_true hx2
    rw [hT, Bool.true_or] at hok
    subst hok
    by_cases hx3 : 100 < x.sv.n
    all_goals (repeat' (first | refine zV ?_ | intro _))
    all_goals exact qE (L' := []) ⟨rfl, rfl, rfl⟩
   ·have hT : overT x = false := decide_eq_false hx2
    rw [hT, Bool.false_or] at hok
    repeat' (first | refine zV ?_ | intro _)
    rw [← e1]
    refine Zg (k + 1) (⟨hlt, hok⟩) Ze Ze rfl tk inferInstance (by first | omega | (dsimp only; omega))
  ·rw [List.drop_of_length_le (by omega), List.any_nil] at hok
   subst hok
   repeat' (first | refine zV ?_ | intro _)
   exact qE (L' := []) ⟨rfl, rfl, rfl⟩
def longR (r : Row) : Bool := decide (100 < r.note.length)
def overC (n m : Nat) (l : List Row) : Bool := decide (10 < n ∨ 10 < m) || l.any longR
def remI (x : Im) (j : Nat) : Bool := if j = 0 then overC x.bv.rn x.bv.kn x.b.rows || overC x.av.rn x.av.kn x.a.rows else if j = 1 then overC x.av.rn x.av.kn x.a.rows else false
def overRB (v : RV) (r : Rc) : Bool := decide (30 < v.i.n ∨ 10 < v.s.n ∨ 20 < v.t.n ∨ 80 < v.d.n) || (r.ims.any (fun x => remI x 0) || r.steps.any (fun s => longR s.row))
theorem RcW.ofOver {ρ v r} (h : RcW ρ v r) (ho : overRB v r = false) : RcIn ρ v r ∧ v.i.n ≤ 30 := by
 unfold overRB at ho
 rw [Bool.or_eq_false_iff, decide_eq_false_iff_not, Bool.or_eq_false_iff, List.any_eq_false] at ho
 obtain ⟨h1, h2, h3⟩ := ho
 refine ⟨⟨⟨h.i.at', by omega, h.i.cap⟩, fun x hx => ?_, ⟨h.s.at', by omega, h.s.cap⟩, ⟨h.t.at', by omega, h.t.cap⟩, ⟨h.d.at', by omega, h.d.cap⟩, h.sf⟩, by omega⟩
 have h4 := h2 x hx
 unfold remI overC at h4
 simp only [if_true, Bool.or_eq_true, decide_eq_true_eq, not_or] at h4
 obtain ⟨hb, ha⟩ := h.im x hx
 exact ⟨⟨⟨hb.r, hb.k, by omega, by omega, hb.rc, hb.kc⟩, hb.row, hb.kid⟩, ⟨⟨ha.r, ha.k, by omega, by omega, ha.rc, ha.kc⟩, ha.row, ha.kid⟩⟩
theorem WI (ρ : Hp) (v : RV) (r : Rc) (h : RcW ρ v r) : Spec Tryz.prog 28 [.agg ⟨Yx v r⟩] ρ [] (fun z ρ' L' => z = .bool (overRB v r) ∧ ρ' = ρ ∧ L' = []) := by
 have hA := h.i.at'
 have hl := hA.len
 have hS := h.s.at'
 have hsl := hS.len
 have g1 := h.i.big
 have g2 := h.s.big
 have g3 := h.t.big
 have g4 := h.d.big
 have him := h.im
 unfold overRB
 refine Zd Tryz.func28 rfl rfl rfl fun u R => ?_
 simp only [Zo, List.cons_append, List.nil_append]
 by_cases hc : 30 < v.i.n ∨ 10 < v.s.n ∨ 20 < v.t.n ∨ 80 < v.d.n
 ·rw [decide_eq_true hc, Bool.true_or]
  repeat' (first | refine zV ?_ | (refine YL ?_; refine ZB rfl rfl (fun hb => ?_) (fun hb => ?_) <;> (try simp only [decide_eq_true_eq, decide_eq_false_iff_not, Bool.not_eq_true, Bool.not_eq_false, beq_iff_eq, bne_iff_ne, ne_eq, decide_eq_decide, Bool.not_eq_eq_eq_not, Bool.not_true, Bool.not_false, beq_eq_false_iff_ne, bne_eq_false_iff_eq, Bool.and_eq_true, Bool.or_eq_true, Bool.and_eq_false_imp, Bool.or_eq_false_iff, bq2, bqt, bqf] at hb)) | (refine ZS ?_; refine ZM rfl (fun hb => ?_) (fun hb => ?_) <;> (try simp only [decide_eq_true_eq, decide_eq_false_iff_not, Bool.not_eq_true, Bool.not_eq_false, beq_iff_eq, bne_iff_ne, ne_eq, decide_eq_decide, Bool.not_eq_eq_eq_not, Bool.not_true, Bool.not_false, beq_eq_false_iff_ne, bne_eq_false_iff_eq, Bool.and_eq_true, Bool.or_eq_true, Bool.and_eq_false_imp, Bool.or_eq_false_iff, bq2, bqt, bqf] at hb)) | intro _)
  all_goals first | exact qE (L' := []) ⟨rfl, rfl, rfl⟩ | (exfalso; omega)
 ·rw [decide_eq_false hc, Bool.false_or]
  generalize hqs : r.steps.any (fun s => longR s.row) = qs
  generalize hq : (r.ims.any (fun x => remI x 0) || qs) = q
  repeat' (first | refine zV ?_ | intro _)
  rename_i b1
  refine Zq [(1, _), (34, _), (35, _)] (fun (ζ : (Nat)) => [(36, .int .i64 ζ), (2, .bool false)]) (fun (ζ : (Nat)) => ρ) (fun (ζ : (Nat)) => [[(b1, .cells ⟨Yx v r⟩ 34 (0, 0))]]) (fun (ζ : (Nat)) => ζ ≤ v.i.n ∧ ((r.ims.drop ζ).any (fun x => remI x 0) || qs) = q) (fun (ζ : (Nat)) => v.i.n - ζ) (0) (⟨Nat.zero_le _, hq⟩) Ze Ze rfl tk ?_
  rintro k hI
  try simp only [List.cons_append, List.nil_append, List.append_assoc, List.append_eq] at hI ⊢
  try dsimp only at hI ⊢
  obtain ⟨hk, hok⟩ := hI
  by_cases hlt : k < v.i.n
  ·obtain ⟨b, off, C, T, fr, e1, hb, hfit, hcc⟩ := hA.get (show k < r.ims.length by omega)
   have hx := him _ (List.getElem_mem (show k < r.ims.length by omega))
   rw [List.drop_eq_getElem_cons (show k < r.ims.length by omega), List.any_cons, Bool.or_assoc] at hok
   generalize r.ims[k]'(by omega) = x at *
   generalize hq2 : ((r.ims.drop (k + 1)).any (fun x => remI x 0) || qs) = q2 at *
   rw [e1]
   repeat' (first | refine zV ?_ | intro _)
   rename_i b4
   show TC _ _ _ ((45, _) :: (44, Value.agg ⟨[.int .i64 x.b.kind, .slice x.bv.ra x.bv.rn x.bv.rc, .slice x.bv.ka x.bv.kn x.bv.kc, .int .i64 x.a.kind, .slice x.av.ra x.av.rn x.av.rc, .slice x.av.ka x.av.kn x.av.kc]⟩) :: _) _ _
   refine Zq [(1, _), (4, _), (34, _), (35, _), (36, _), (37, _), (38, _), (39, _), (40, _), (41, _), (42, _), (43, _), (44, _)] (fun (ζ : (Nat)) => [(45, .int .i64 ζ), (2, .bool false)]) (fun (ζ : (Nat)) => ρ) (fun (ζ : (Nat)) => [[(b4, .cells ⟨imV x⟩ 100 (0, 0))], [(b1, .cells ⟨Yx v r⟩ 34 (0, 0))]]) (fun (ζ : (Nat)) => ζ ≤ 2 ∧ (remI x ζ || q2) = q) (fun (ζ : (Nat)) => 2 - ζ) (0) (⟨by omega, hok⟩) Ze Ze rfl tk ?_
   rintro j hI
   try simp only [List.cons_append, List.nil_append, List.append_assoc, List.append_eq] at hI ⊢
   try dsimp only at hI ⊢
   obtain ⟨hj, hok⟩ := hI
   by_cases hj2 : j < 2
   ·obtain ⟨cv, c, hW, hrem, hix⟩ : ∃ (cv : CV) (c : Cont), CW ρ cv c ∧ remI x j = (overC cv.rn cv.kn c.rows || remI x (j + 1)) ∧ (List.drop (j * 3) ([.int .i64 x.b.kind, .slice x.bv.ra x.bv.rn x.bv.rc, .slice x.bv.ka x.bv.kn x.bv.kc, .int .i64 x.a.kind, .slice x.av.ra x.av.rn x.av.rc, .slice x.av.ka x.av.kn x.av.kc] : List Value)).take 3 = contV c.kind cv := by
     rcases (show j = 0 ∨ j = 1 by omega) with rfl | rfl
     ·exact ⟨x.bv, x.b, hx.1, by simp [remI], rfl⟩
     ·exact ⟨x.av, x.a, hx.2, by simp [remI], rfl⟩
    rw [hrem, Bool.or_assoc] at hok
    generalize hq3 : (remI x (j + 1) || q2) = q3 at *
    have w1 := hW.rb
    have w2 := hW.kb
    have w3 := hW.r
    have w4 := w3.len
    clear hrem
    unfold overC at hok
    by_cases hcc2 : 10 < cv.rn ∨ 10 < cv.kn
    ·rw [decide_eq_true hcc2, Bool.true_or, Bool.true_or] at hok
     subst hok
     by_cases hcc3 : 10 < cv.rn
     all_goals (repeat' (first | (refine tl_y (y_index_a rfl rfl hj2 hix) rfl rfl ?_) | refine zV ?_ | intro _))
     all_goals exact qE (L' := []) ⟨rfl, rfl, rfl⟩
    ·rw [decide_eq_false hcc2, Bool.false_or] at hok
     repeat' (first | (refine tl_y (y_index_a rfl rfl hj2 hix) rfl rfl ?_) | refine zV ?_ | intro _)
     rename_i b6
     refine Zq [(1, _), (4, _), (6, _), (34, _), (35, _), (36, _), (37, _), (38, _), (39, _), (40, _), (41, _), (42, _), (43, _), (44, _), (45, _), (46, _), (47, _), (48, _), (49, _), (50, _), (51, _), (52, _), (53, _), (54, _), (55, _), (56, _), (57, _), (58, _), (59, _), (60, _)] (fun (ζ : (Nat)) => [(61, .int .i64 ζ), (2, .bool false)]) (fun (ζ : (Nat)) => ρ) (fun (ζ : (Nat)) => [[(b6, .cells ⟨contV c.kind cv⟩ 98 (0, 0))], [(b4, .cells ⟨imV x⟩ 100 (0, 0))], [(b1, .cells ⟨Yx v r⟩ 34 (0, 0))]]) (fun (ζ : (Nat)) => ζ ≤ cv.rn ∧ ((c.rows.drop ζ).any longR || q3) = q) (fun (ζ : (Nat)) => cv.rn - ζ) (0) (⟨Nat.zero_le _, hok⟩) Ze Ze rfl tk ?_
     rintro i hI
     try simp only [List.cons_append, List.nil_append, List.append_assoc, List.append_eq] at hI ⊢
     try dsimp only at hI ⊢
     obtain ⟨hi, hok⟩ := hI
     by_cases hlt3 : i < cv.rn
     ·obtain ⟨bb, off2, C2, T2, fr2, e2, hb2, hfit2, hc2⟩ := w3.get (show i < c.rows.length by omega)
      rw [List.drop_eq_getElem_cons (show i < c.rows.length by omega), List.any_cons, Bool.or_assoc] at hok
      generalize c.rows[i]'(by omega) = y at *
      rw [e2]
      by_cases hy : 100 < y.note.length
      ·have hT : longR y = true := decide_eq_true hy
       rw [hT, Bool.true_or] at hok
       subst hok
       repeat' (first | refine zV ?_ | intro _)
       exact qE (L' := []) ⟨rfl, rfl, rfl⟩
      ·have hT : longR y = false := decide_eq_false hy
       rw [hT, Bool.false_or] at hok
       repeat' (first | refine zV ?_ | intro _)
       rw [← e2]
       refine Zg (i + 1) (⟨hlt3, hok⟩) Ze Ze rfl tk inferInstance (by first | omega | (dsimp only; omega))
     ·rw [List.drop_of_length_le (by omega), List.any_nil, Bool.false_or] at hok
      repeat' (first | refine zV ?_ | intro _)
      refine Zg (j + 1) (⟨hj2, by rw [hq3]; exact hok⟩) Ze Ze rfl tk inferInstance (by first | omega | (dsimp only; omega))
   ·have hz : remI x j = false := by
     unfold remI; rw [if_neg (by omega), if_neg (by omega)]
    rw [hz, Bool.false_or] at hok
    repeat' (first | refine zV ?_ | intro _)
    rw [← e1]
    refine Zg (k + 1) (⟨hlt, by rw [hq2]; exact hok⟩) Ze Ze rfl tk inferInstance (by first | omega | (dsimp only; omega))
  ·rw [List.drop_of_length_le (by omega), List.any_nil, Bool.false_or] at hok
   subst hok
   repeat' (first | refine zV ?_ | intro _)
   refine Zq [(73, _), (74, _)] (fun (ζ : (Nat)) => [(75, .int .i64 ζ), (2, .bool false)]) (fun (ζ : (Nat)) => ρ) (fun (ζ : (Nat)) => []) (fun (ζ : (Nat)) => ζ ≤ v.s.n ∧ (r.steps.drop ζ).any (fun s => longR s.row) = qs) (fun (ζ : (Nat)) => v.s.n - ζ) (0) (⟨Nat.zero_le _, hqs⟩) Ze Ze rfl tk ?_
   rintro j hI
   try simp only [List.cons_append, List.nil_append, List.append_assoc, List.append_eq] at hI ⊢
   try dsimp only at hI ⊢
   obtain ⟨hj, hok⟩ := hI
   by_cases hlt2 : j < v.s.n
   ·obtain ⟨b, off, C, T, fr, e1, hb, hfit, hcc⟩ := hS.get (show j < r.steps.length by omega)
    rw [List.drop_eq_getElem_cons (show j < r.steps.length by omega), List.any_cons] at hok
    generalize r.steps[j]'(by omega) = y at *
    rw [e1]
    by_cases hy : 100 < y.row.note.length
    ·have hT : longR y.row = true := decide_eq_true hy
     rw [hT, Bool.true_or] at hok
     subst hok
     repeat' (first | refine zV ?_ | intro _)
     exact qE (L' := []) ⟨rfl, rfl, rfl⟩
    ·have hT : longR y.row = false := decide_eq_false hy
     rw [hT, Bool.false_or] at hok
     repeat' (first | refine zV ?_ | intro _)
     rw [← e1]
     refine Zg (j + 1) (⟨hlt2, hok⟩) Ze Ze rfl tk inferInstance (by first | omega | (dsimp only; omega))
   ·rw [List.drop_of_length_le (by omega), List.any_nil] at hok
    subst hok
    repeat' (first | refine zV ?_ | intro _)
    exact qE (L' := []) ⟨rfl, rfl, rfl⟩
theorem Wa (ρ : Hp) (d e : AnD) (h : AnIn ρ d) (h' : AnIn ρ e) (he : d.p = e.p) : Spec Tryz.prog 25 [.agg ⟨anV d⟩, .agg ⟨anV e⟩] ρ [] (fun z ρ' L' => z = .bool true ∧ ρ' = ρ ∧ L' = []) := by
 have := same23_spec ρ d e h h'
 rwa [decide_eq_true he] at this
theorem same_an_true (ρ : Hp) (d : AnD) (h : AnIn ρ d) : Spec Tryz.prog 34 [.agg ⟨anV d⟩, .agg ⟨anV d⟩] ρ [] (fun z ρ' L' => z = .bool true ∧ ρ' = ρ ∧ L' = []) := by
 have := same_an_spec ρ d d h h
 rwa [decide_eq_true rfl] at this
theorem begins_spec (ρ : Hp) (base master fin : Nat) : Spec Tryz.prog 4 [.int .u64 base, .int .u64 master, .int .u64 fin] ρ [] (fun z ρ' L' => z = .bool true ∧ ρ.le ρ' ∧ L' = []) := by
 have hB := fun ρ1 => begin_spec ρ1 base master fin
 have hR := fun ρ1 => WK ρ1 (newD base master fin) newD_in
 have e0 : (newD base master fin).p = newA base master fin := rfl
 rw [e0] at hR
 generalize Yc (newA base master fin) = q at *
 refine Zd Tryz.func4 rfl rfl rfl fun u R => ?_
 simp only [Zo, List.cons_append, List.nil_append]
 cases q
 ·simp only [Bool.false_eq_true, if_false] at hB
  have hS := fun ρ1 => Wa ρ1 Wn Wn YT YT rfl
  repeat' (first | (refine Zc (.func 21) ?_; refine qC rfl rfl (YA _) ?_; rintro v ρ' L' hle ⟨rfl, hz1, rfl⟩ <;> (try simp only [kM, kN, kO])) | (refine Zc (.func 22) ?_; refine qC rfl rfl (hB _) ?_; rintro v ρ' L' hle ⟨rfl, rfl, rfl⟩ <;> (try simp only [kM, kN, kO])) | (refine Zc (.func 23) ?_; refine qC rfl rfl (new23_spec _ base master fin) ?_; rintro v ρ' L' hle ⟨rfl, rfl, rfl⟩ <;> (try simp only [kM, kN, kO])) | (refine Zc (.func 24) ?_; refine qC rfl rfl (hR _) ?_; rintro v ρ' L' hle ⟨rfl, rfl, rfl⟩ <;> (try simp only [kM, kN, kO])) | (refine Zc (.func 25) ?_; refine qC rfl rfl (hS _) ?_; rintro v ρ' L' hle ⟨rfl, rfl, rfl⟩ <;> (try simp only [kM, kN, kO])) | refine zV ?_ | intro _)
  exact qE (L' := []) ⟨rfl, hz1, rfl⟩
 ·simp only [if_true] at hB
  have hS := fun ρ1 => Wa ρ1 (newD base master fin) (newD base master fin) newD_in newD_in rfl
  repeat' (first | (refine Zc (.func 21) ?_; refine qC rfl rfl (YA _) ?_; rintro v ρ' L' hle ⟨rfl, hz1, rfl⟩ <;> (try simp only [kM, kN, kO])) | (refine Zc (.func 22) ?_; refine qC rfl rfl (hB _) ?_; rintro v ρ' L' hle ⟨rfl, rfl, rfl⟩ <;> (try simp only [kM, kN, kO])) | (refine Zc (.func 23) ?_; refine qC rfl rfl (new23_spec _ base master fin) ?_; rintro v ρ' L' hle ⟨rfl, rfl, rfl⟩ <;> (try simp only [kM, kN, kO])) | (refine Zc (.func 24) ?_; refine qC rfl rfl (hR _) ?_; rintro v ρ' L' hle ⟨rfl, rfl, rfl⟩ <;> (try simp only [kM, kN, kO])) | (refine Zc (.func 25) ?_; refine qC rfl rfl (hS _) ?_; rintro v ρ' L' hle ⟨rfl, rfl, rfl⟩ <;> (try simp only [kM, kN, kO])) | refine zV ?_ | intro _)
  exact qE (L' := []) ⟨rfl, hz1, rfl⟩
theorem steps_bad (ρ : Hp) (d : AnD) (hd : AnIn ρ d) (hoA : overAB d = false) (hW : AnW ρ d) (rv : RV) (r : Rc) (hrW : RcW ρ rv r) (hoR : overRB rv r = false) (hr : RcIn ρ rv r) (hq : Yc d.p = false) :
  Spec Tryz.prog 6 [.agg ⟨anV d⟩, .agg ⟨Yx rv r⟩] ρ [] (fun z ρ' L' => z = .bool true ∧ ρ.le ρ' ∧ L' = []) := by
 have hO := fun ρ1 (h : ρ.le ρ1) => over23_spec ρ1 d (hW.mono h)
 rw [hoA] at hO
 have hOR := fun ρ1 (h : ρ.le ρ1) => WI ρ1 rv r (hrW.mono h)
 rw [hoR] at hOR
 have hS := fun ρ1 (h : ρ.le ρ1) => step_an_spec ρ1 d (hd.mono h) rv r (hr.mono h)
 have e1 : YN d.p r = 330 := by unfold YN; rw [hq]; rfl
 have e2 : Wb d.p r = zeroA := by unfold Wb; rw [e1]; rfl
 unfold XD at hS
 rw [e1, e2] at hS
 have hC := fun ρ1 (h : ρ.le ρ1) => Wc ρ1 d (hd.mono h)
 have hR := fun ρ1 (h : ρ.le ρ1) => WK ρ1 d (hd.mono h)
 have hOv := fun ρ1 (h : ρ.le ρ1) => over_an_spec ρ1 d (hd.mono h)
 have hFi := fun ρ1 (h : ρ.le ρ1) => first_an_spec ρ1 d (hd.mono h)
 rw [hq] at hC hR hOv hFi
 simp only [Bool.false_eq_true, if_false, Bool.false_and] at hC hOv hFi
 refine Zd Tryz.func6 rfl rfl rfl fun u R => ?_
 simp only [Zo, List.cons_append, List.nil_append]
 repeat' (first | (refine Zc (.func 21) ?_; refine qC rfl rfl (YA _) ?_; rintro v ρ' L' hle ⟨rfl, hz1, rfl⟩ <;> (try simp only [kM, kN, kO])) | (refine Zc (.func 26) ?_; refine qC rfl rfl (hO _ hz1) ?_; rintro v ρ' L' hle ⟨rfl, rfl, rfl⟩ <;> (try simp only [kM, kN, kO])) | (refine Zc (.func 28) ?_; refine qC rfl rfl (hOR _ hz1) ?_; rintro v ρ' L' hle ⟨rfl, rfl, rfl⟩ <;> (try simp only [kM, kN, kO])) | (refine Zc (.func 29) ?_; refine qC rfl rfl (hS _ hz1) ?_; rintro v ρ' L' hle ⟨hz2, d1, rfl, hd1, hp1, rfl⟩ <;> (try simp only [kM, kN, kO])) | (refine Zc (.func 27) ?_; refine qC rfl rfl (hC _ (Hp.le_trans hz1 hz2)) ?_; rintro v ρ' L' hle ⟨rfl, rfl, rfl⟩ <;> (try simp only [kM, kN, kO])) | (refine Zc (.func 24) ?_; refine qC rfl rfl (hR _ (Hp.le_trans hz1 hz2)) ?_; rintro v ρ' L' hle ⟨rfl, rfl, rfl⟩ <;> (try simp only [kM, kN, kO])) | (refine Zc (.func 25) ?_; refine qC rfl rfl (Wa _ d1 Wn hd1 YT hp1) ?_; rintro v ρ' L' hle ⟨rfl, rfl, rfl⟩ <;> (try simp only [kM, kN, kO])) | (refine Zc (.func 30) ?_; refine qC rfl rfl (hOv _ (Hp.le_trans hz1 hz2)) ?_; rintro v ρ' L' hle ⟨rfl, rfl, rfl⟩ <;> (try simp only [kM, kN, kO])) | (refine Zc (.func 31) ?_; refine qC rfl rfl (hFi _ (Hp.le_trans hz1 hz2)) ?_; rintro v ρ' L' hle ⟨rfl, rfl, rfl⟩ <;> (try simp only [kM, kN, kO])) | refine zV ?_ | intro _)
 exact qE (L' := []) (hle := Hp.le_trans hz1 hz2) ⟨rfl, Hp.le_trans hz1 hz2, rfl⟩
theorem steps_good (ρ : Hp) (d : AnD) (hd : AnIn ρ d) (hoA : overAB d = false) (hW : AnW ρ d) (rv : RV) (r : Rc) (hrW : RcW ρ rv r) (hoR : overRB rv r = false) (hr : RcIn ρ rv r) (hq : Yc d.p = true) :
  Spec Tryz.prog 6 [.agg ⟨anV d⟩, .agg ⟨Yx rv r⟩] ρ [] (fun z ρ' L' => z = .bool true ∧ ρ.le ρ' ∧ L' = []) := by
 have hO := fun ρ1 (h : ρ.le ρ1) => over23_spec ρ1 d (hW.mono h)
 rw [hoA] at hO
 have hOR := fun ρ1 (h : ρ.le ρ1) => WI ρ1 rv r (hrW.mono h)
 rw [hoR] at hOR
 have hS := fun ρ1 (h : ρ.le ρ1) => step_an_spec ρ1 d (hd.mono h) rv r (hr.mono h)
 have hS2 := fun ρ1 (h : ρ.le ρ1) => step23_spec ρ1 d (hd.mono h) rv r (hr.mono h) hq
 unfold XD at hS hS2
 have hC := fun ρ1 (h : ρ.le ρ1) => Wc ρ1 d (hd.mono h)
 have hR := fun ρ1 (h : ρ.le ρ1) => WK ρ1 d (hd.mono h)
 have hOv := fun ρ1 (h : ρ.le ρ1) => over_an_spec ρ1 d (hd.mono h)
 have hFi := fun ρ1 (h : ρ.le ρ1) => first_an_spec ρ1 d (hd.mono h)
 have hF2 := fun ρ1 (h : ρ.le ρ1) => first23_spec ρ1 d (hd.mono h)
 have hSa := fun ρ1 (h : ρ.le ρ1) => same_an_true ρ1 d (hd.mono h)
 rw [hq] at hC hR hOv hFi
 simp only [if_true, Bool.true_and] at hC hOv hFi
 generalize YN d.p r = se at *
 generalize Wb d.p r = sp at *
 generalize firstN d.p = fn at *
 refine Zd Tryz.func6 rfl rfl rfl fun u R => ?_
 simp only [Zo, List.cons_append, List.nil_append]
 by_cases hnf : d.next = d.fin
 all_goals simp only [hnf, decide_true, decide_false] at hOv
 all_goals (repeat' (first | (refine Zc (.func 21) ?_; refine qC rfl rfl (YA _) ?_; rintro v ρ' L' hle ⟨rfl, hz1, rfl⟩ <;> (try simp only [kM, kN, kO])) | (refine Zc (.func 26) ?_; refine qC rfl rfl (hO _ hz1) ?_; rintro v ρ' L' hle ⟨rfl, rfl, rfl⟩ <;> (try simp only [kM, kN, kO])) | (refine Zc (.func 28) ?_; refine qC rfl rfl (hOR _ hz1) ?_; rintro v ρ' L' hle ⟨rfl, rfl, rfl⟩ <;> (try simp only [kM, kN, kO])) | (refine Zc (.func 29) ?_; refine qC rfl rfl (hS _ hz1) ?_; rintro v ρ' L' hle ⟨hz2, d1, rfl, hd1, hp1, rfl⟩ <;> (try simp only [kM, kN, kO])) | (refine Zc (.func 27) ?_; refine qC rfl rfl (hC _ (Hp.le_trans hz1 hz2)) ?_; rintro v ρ' L' hle ⟨rfl, rfl, rfl⟩ <;> (try simp only [kM, kN, kO])) | (refine Zc (.func 24) ?_; refine qC rfl rfl (hR _ (Hp.le_trans hz1 hz2)) ?_; rintro v ρ' L' hle ⟨rfl, rfl, rfl⟩ <;> (try simp only [kM, kN, kO])) | (refine Zc (.func 32) ?_; refine qC rfl rfl (hS2 _ (Hp.le_trans hz1 hz2)) ?_; rintro v ρ' L' hle ⟨hz3, d2, rfl, hd2, hp2, rfl⟩ <;> (try simp only [kM, kN, kO])) | refine zV ?_ | intro _))
 all_goals have hz := Hp.le_trans hz1 (Hp.le_trans hz2 hz3)
 all_goals have hs12 := hp1.trans hp2.symm
 all_goals refine Zu (Zk _ _ _) Zp ?_
 all_goals (refine Zx 0 ?_; refine rCm 1 ?_; refine Zx 2 ?_; (first | refine Zb 3 ?_ | refine Za 3 ?_ | refine ZI 3 ?_); (first | refine Zb 4 ?_ | refine Za 4 ?_ | refine ZI 4 ?_); (first | refine Zb 5 ?_ | refine Za 5 ?_ | refine Yg 5 ?_); refine Yj 6 ?_; refine Zx 7 ?_; (first | refine Zb 8 ?_ | refine Za 8 ?_ | refine ZL 8 ?_); (first | refine Zb 9 ?_ | refine Za 9 ?_ | refine ZL 9 ?_))
 all_goals (first | refine Zb 10 ?_ | refine Za 10 ?_ | (refine Zj (i := 10) ?_; ((try refine Zh ?_); (first | (refine Zc (.func 25) ?_; refine qC rfl rfl (Wa _ d1 d2 (hd1.mono hz3) hd2 hs12) ?_; rintro v ρ' L' hle ⟨rfl, rfl, rfl⟩ <;> (try simp only [kM, kN, kO])) | (refine ZF ?_; try intro _)) <;> ((try simp only [kM, kN, kO]); refine Zf ?_; refine Zi ?_))))
 all_goals (refine Yj 11 ?_; refine Zx 12 ?_; (first | refine Zb 13 ?_ | refine Za 13 ?_ | refine ZL 13 ?_); (first | refine Zb 15 ?_ | refine Za 15 ?_ | refine ZE 15 ?_); (first | refine Zb 16 ?_ | refine Za 16 ?_ | refine ZL 16 ?_); (first | refine Zb 17 ?_ | refine Za 17 ?_ | refine ZE 17 ?_); (first | refine Zb 18 ?_ | refine Za 18 ?_ | refine ZL 18 ?_); (first | refine Zb 19 ?_ | refine Za 19 ?_ | refine Yg 19 ?_))
 all_goals (first | refine Zb 14 ?_ | refine Za 14 ?_ | (refine Zj (i := 14) ?_; ((try refine Zh ?_); (first | (refine Zc (.func 30) ?_; refine qC rfl rfl (hOv _ hz) ?_; rintro v ρ' L' hle ⟨rfl, rfl, rfl⟩ <;> (try simp only [kM, kN, kO])) | (refine ZF ?_; try intro _)) <;> ((try simp only [kM, kN, kO]); refine Zf ?_; refine Zi ?_))))
 all_goals ((first | refine Zb 20 ?_ | refine Za 20 ?_ | refine Yg 20 ?_); refine Yj 21 ?_; refine Zx 22 ?_; (first | refine Zb 23 ?_ | refine Za 23 ?_ | refine ZL 23 ?_); (first | refine Zb 25 ?_ | refine Za 25 ?_ | refine ZL 25 ?_))
 all_goals (first | refine Zb 24 ?_ | refine Za 24 ?_ | (refine Zj (i := 24) ?_; ((try refine Zh ?_); (first | (refine Zc (.func 31) ?_; refine qC rfl rfl (hFi _ hz) ?_; rintro v ρ' L' hle ⟨rfl, rfl, rfl⟩ <;> (try simp only [kM, kN, kO])) | (refine ZF ?_; try intro _)) <;> ((try simp only [kM, kN, kO]); refine Zf ?_; refine Zi ?_))))
 all_goals (first | refine Zb 26 ?_ | refine Za 26 ?_ | (refine Zj (i := 26) ?_; ((try refine Zh ?_); (first | (refine Zc (.func 33) ?_; refine qC rfl rfl (hF2 _ hz) ?_; rintro v ρ' L' hle ⟨rfl, rfl, rfl⟩ <;> (try simp only [kM, kN, kO])) | (refine ZF ?_; try intro _)) <;> ((try simp only [kM, kN, kO]); refine Zf ?_; refine Zi ?_))))
 all_goals ((first | refine Zb 27 ?_ | refine Za 27 ?_ | refine Yg 27 ?_); refine Yj 28 ?_; refine Zx 29 ?_; (first | refine Zb 30 ?_ | refine Za 30 ?_ | refine ZL 30 ?_); (first | refine Zb 31 ?_ | refine Za 31 ?_ | refine ZL 31 ?_))
 all_goals (first | refine Zb 32 ?_ | refine Za 32 ?_ | (refine Zj (i := 32) ?_; ((try refine Zh ?_); (first | (refine Zc (.func 34) ?_; refine qC rfl rfl (hSa _ hz) ?_; rintro v ρ' L' hle ⟨rfl, rfl, rfl⟩ <;> (try simp only [kM, kN, kO])) | (refine ZF ?_; try intro _)) <;> ((try simp only [kM, kN, kO]); refine Zf ?_; refine Zi ?_))))
 all_goals (refine Zz ?_; refine Yj 33 ?_; refine rAs 34 ?_; refine Zv ?_)
 all_goals (repeat' (first | refine zV ?_ | intro _))
 all_goals exact qE (L' := []) (hle := hz) ⟨rfl, hz, rfl⟩
theorem stepsLaw_spec (ρ : Hp) (d : AnD) (hW : AnW ρ d) (rv : RV) (r : Rc) (hrW : RcW ρ rv r) : Spec Tryz.prog 6 [.agg ⟨anV d⟩, .agg ⟨Yx rv r⟩] ρ [] (fun z ρ' L' => z = .bool true ∧ ρ.le ρ' ∧ L' = []) := by
 have hO := fun ρ1 (h : ρ.le ρ1) => over23_spec ρ1 d (hW.mono h)
 have hOR := fun ρ1 (h : ρ.le ρ1) => WI ρ1 rv r (hrW.mono h)
 cases hoA : overAB d
 case' true =>
  rw [hoA] at hO
  refine Zd Tryz.func6 rfl rfl rfl fun u R => ?_
  simp only [Zo, List.cons_append, List.nil_append]
  repeat' (first | (refine Zc (.func 21) ?_; refine qC rfl rfl (YA _) ?_; rintro v ρ' L' hle ⟨rfl, hz1, rfl⟩ <;> (try simp only [kM, kN, kO])) | (refine Zc (.func 26) ?_; refine qC rfl rfl (hO _ hz1) ?_; rintro v ρ' L' hle ⟨rfl, rfl, rfl⟩ <;> (try simp only [kM, kN, kO])) | refine zV ?_ | intro _)
  exact qE (L' := []) ⟨rfl, hz1, rfl⟩
 cases hoR : overRB rv r
 case' true =>
  rw [hoA] at hO
  rw [hoR] at hOR
  refine Zd Tryz.func6 rfl rfl rfl fun u R => ?_
  simp only [Zo, List.cons_append, List.nil_append]
  repeat' (first | (refine Zc (.func 21) ?_; refine qC rfl rfl (YA _) ?_; rintro v ρ' L' hle ⟨rfl, hz1, rfl⟩ <;> (try simp only [kM, kN, kO])) | (refine Zc (.func 26) ?_; refine qC rfl rfl (hO _ hz1) ?_; rintro v ρ' L' hle ⟨rfl, rfl, rfl⟩ <;> (try simp only [kM, kN, kO])) | (refine Zc (.func 28) ?_; refine qC rfl rfl (hOR _ hz1) ?_; rintro v ρ' L' hle ⟨rfl, rfl, rfl⟩ <;> (try simp only [kM, kN, kO])) | refine zV ?_ | intro _)
  exact qE (L' := []) ⟨rfl, hz1, rfl⟩
 cases hq : Yc d.p
 ·exact steps_bad ρ d (hW.ofOver hoA).1 hoA hW rv r hrW hoR (hrW.ofOver hoR).1 hq
 ·exact steps_good ρ d (hW.ofOver hoA).1 hoA hW rv r hrW hoR (hrW.ofOver hoR).1 hq
theorem wr1_in (ρ : Hp) : RcIn ρ noRV wr1 := ⟨AS.nil, by simp [wr1], AS.nil, AS.nil, AS.nil, by simp [wr1]⟩
theorem wr1_ok : ZU wr1 = true := by decide +kernel
theorem stepP_facts {a : AnP} {r : Rc} (h : YN a r = 0) : Yc (Wb a r) = true ∧ Yc a = true ∧ a.next ≠ a.fin ∧ r.lsn = a.next ∧ ∃ q, WJ a r = some q ∧ Wb a r = { q with next := q.next + 1 } := by
 have h1 : Yc a = true := by
  cases e : Yc a with
  | true => rfl
  | false => unfold YN at h; rw [e] at h; simp at h
 have h2 : a.next ≠ a.fin := fun e => by unfold YN at h; rw [h1, if_pos rfl, if_pos e] at h; exact absurd h (by decide)
 have h3 : ZU r = true := by
  cases e : ZU r with
  | true => rfl
  | false => unfold YN at h; rw [h1, if_pos rfl, if_neg h2, e] at h; simp at h
 have h4 : r.lsn = a.next := Classical.byContradiction fun e => by unfold YN at h; rw [h1, if_pos rfl, if_neg h2, h3, if_pos rfl, if_pos e] at h; exact absurd h (by decide)
 obtain ⟨e1, e2⟩ := stepE_on h1 h2 h3 h4
 rw [h] at e1
 cases ho : WJ a r with
 | none => rw [onA_none ho] at e1; exact absurd e1 (by decide)
 | some q =>
  rw [onA_some ho] at e1 e2
  cases hb : Yc { q with next := q.next + 1 } with
  | false => rw [hb] at e1; simp at e1
  | true =>
   rw [hb] at e2
   have e2 : Wb a r = { q with next := q.next + 1 } := e2
   exact ⟨by rw [e2]; exact hb, h1, h2, h4, q, rfl, e2⟩
theorem stepP_right {a : AnP} {r : Rc} (h : YN a r = 0) : Yc (Wb a r) = true := (stepP_facts h).1
theorem runsLaw_spec (ρ : Hp) (d : AnD) (hW : AnW ρ d) (a : Option Addr) (n c : Nat) (lv : List (RV × Rc)) (hA : AIn ρ 10 lvV a n lv) (hP : ∀ x ∈ lv, RcW ρ x.1 x.2) (hn : n ≤ 9223372036854775807) :
  Spec Tryz.prog 7 [.agg ⟨anV d⟩, .slice a n c] ρ [] (fun z ρ' L' => z = .bool true ∧ ρ.le ρ' ∧ L' = []) := by
 have hl := hA.len
 have hO := fun ρ1 (h : ρ.le ρ1) => over23_spec ρ1 d (hW.mono h)
 refine Zd Tryz.func7 rfl rfl rfl fun u R => ?_
 simp only [Zo, List.cons_append, List.nil_append]
 cases hoA : overAB d
 case' true =>
  rw [hoA] at hO
  repeat' (first | (refine Zc (.func 21) ?_; refine qC rfl rfl (YA _) ?_; rintro v ρ' L' hle ⟨rfl, hz1, rfl⟩ <;> (try simp only [kM, kN, kO])) | (refine Zc (.func 26) ?_; refine qC rfl rfl (hO _ hz1) ?_; rintro v ρ' L' hle ⟨rfl, rfl, rfl⟩ <;> (try simp only [kM, kN, kO])) | refine zV ?_ | intro _)
  exact qE (L' := []) ⟨rfl, hz1, rfl⟩
 rw [hoA] at hO
 by_cases h100 : 100 < n
 case' pos =>
  repeat' (first | (refine Zc (.func 21) ?_; refine qC rfl rfl (YA _) ?_; rintro v ρ' L' hle ⟨rfl, hz1, rfl⟩ <;> (try simp only [kM, kN, kO])) | (refine Zc (.func 26) ?_; refine qC rfl rfl (hO _ hz1) ?_; rintro v ρ' L' hle ⟨rfl, rfl, rfl⟩ <;> (try simp only [kM, kN, kO])) | refine zV ?_ | intro _)
  exact qE (L' := []) ⟨rfl, hz1, rfl⟩
 have hd0 := (hW.ofOver hoA).1
 repeat' (first | (refine Zc (.func 21) ?_; refine qC rfl rfl (YA _) ?_; rintro v ρ' L' hle ⟨rfl, hz1, rfl⟩ <;> (try simp only [kM, kN, kO])) | (refine Zc (.func 26) ?_; refine qC rfl rfl (hO _ hz1) ?_; rintro v ρ' L' hle ⟨rfl, rfl, rfl⟩ <;> (try simp only [kM, kN, kO])) | refine zV ?_ | intro _)
 refine Zq [(1, _), (2, _), (22, _), (23, _)] (fun (ζ : (Nat)) => [(24, .int .i64 ζ), (4, .bool false)]) (fun (ζ : (Nat)) => ρ') (fun (ζ : (Nat)) => [anC _ d]) (fun (ζ : (Nat)) => ζ ≤ n ∧ ∀ x ∈ lv.take ζ, overRB x.1 x.2 = false) (fun (ζ : (Nat)) => n - ζ) (0) (⟨Nat.zero_le _, by simp⟩) Ze Ze rfl tk ?_
 rintro k hI
 try simp only [List.cons_append, List.nil_append, List.append_assoc, List.append_eq] at hI ⊢
 try dsimp only at hI ⊢
 obtain ⟨hk, hI⟩ := hI
 by_cases hlt : k < n
 ·obtain ⟨b, off, C, T, fr, e1, hb, hfit, hcc⟩ := (hA.mono hz1).get (show k < lv.length by omega)
  have hx := (hP _ (List.getElem_mem (show k < lv.length by omega))).mono hz1
  have hmore := fun (e : overRB (lv[k]'(by omega)).1 (lv[k]'(by omega)).2 = false) => WD (p := fun x : RV × Rc => overRB x.1 x.2 = false) (show k < lv.length by omega) e hI
  generalize lv[k]'(by omega) = y at *
  have hOR := WI ρ' y.1 y.2 hx
  rw [e1]
  cases hoR : overRB y.1 y.2
  ·rw [hoR] at hOR
   repeat' (first | (refine Zc (.func 28) ?_; refine qC rfl rfl (hOR) ?_; rintro v ρ' L' hle ⟨rfl, rfl, rfl⟩ <;> (try simp only [kM, kN, kO])) | refine zV ?_ | intro _)
   rw [← e1]
   refine Zg (k + 1) (⟨hlt, hmore hoR⟩) Ze Ze rfl tk inferInstance (by first | omega | (dsimp only; omega))
  ·rw [hoR] at hOR
   repeat' (first | (refine Zc (.func 28) ?_; refine qC rfl rfl (hOR) ?_; rintro v ρ' L' hle ⟨rfl, rfl, rfl⟩ <;> (try simp only [kM, kN, kO])) | refine zV ?_ | intro _)
   exact qE (L' := []) (hle := hz1) ⟨rfl, hz1, rfl⟩
 rw [List.take_of_length_le (by omega)] at hI
 have hin : ∀ x ∈ lv, RcIn ρ' x.1 x.2 := fun x hx => ((hP x hx).mono hz1).ofOver (hI x hx) |>.1
 have hA1 := hA.mono hz1
 have hd1 := hd0.mono hz1
 have hRun := run_an_spec ρ' d hd1 a n c lv hA1 hin (by omega)
 have hR := fun ρ1 (h : ρ'.le ρ1) => WK ρ1 d (hd1.mono h)
 unfold runPE runPP at hRun
 cases hq : Yc d.p
 ·rw [hq] at hRun hR
  simp only [Bool.false_eq_true, if_false] at hRun
  repeat' (first | (refine Zc (.func 35) ?_; refine qC rfl rfl (hRun) ?_; rintro v ρ' L' hle ⟨hz2, d1, rfl, hd1', hp1, rfl⟩ <;> (try simp only [kM, kN, kO])) | (refine Zc (.func 24) ?_; refine qC rfl rfl (hR _ hz2) ?_; rintro v ρ' L' hle ⟨rfl, rfl, rfl⟩ <;> (try simp only [kM, kN, kO])) | (refine Zc (.func 25) ?_; refine qC rfl rfl (Wa _ d1 Wn hd1' YT hp1) ?_; rintro v ρ' L' hle ⟨rfl, rfl, rfl⟩ <;> (try simp only [kM, kN, kO])) | refine zV ?_ | intro _)
  exact qE (L' := []) (hle := Hp.le_trans hz1 hz2) ⟨rfl, Hp.le_trans hz1 hz2, rfl⟩
 rw [hq] at hRun hR
 simp only [if_true] at hRun
 generalize hE : runE d.p (lv.map (·.2)) = eE at *
 generalize hPP : runP d.p (lv.map (·.2)) = eP at *
 repeat' (first | (refine Zc (.func 35) ?_; refine qC rfl rfl (hRun) ?_; rintro v ρ' L' hle ⟨hz2, d1, rfl, hd1', hp1, rfl⟩ <;> (try simp only [kM, kN, kO])) | (refine Zc (.func 24) ?_; refine qC rfl rfl (hR _ hz2) ?_; rintro v ρ' L' hle ⟨rfl, rfl, rfl⟩ <;> (try simp only [kM, kN, kO])) | refine zV ?_ | intro _)
 rename_i b7 hxx b9
 have hR12 := fun ρ1 => Xe ρ1 noRV wr1 (wr1_in ρ1)
 rw [wr1_ok] at hR12
 refine Zq [(2, _), (4, _), (7, _), (8, _), (9, _), (48, _), (49, _)] (fun (ζ : (Nat) × (Hp) × (AnD)) => [(50, .int .i64 ζ.1), (10, .int .i64 0)]) (fun (ζ : (Nat) × (Hp) × (AnD)) => ζ.2.1) (fun (ζ : (Nat) × (Hp) × (AnD)) => [anC b9 ζ.2.2, anC b7 d1, anC _ d]) (fun (ζ : (Nat) × (Hp) × (AnD)) => ζ.1 ≤ n ∧ ρ'.le ζ.2.1 ∧ AnIn ζ.2.1 ζ.2.2 ∧ runE ζ.2.2.p ((lv.map (·.2)).drop ζ.1) = eE ∧ runP ζ.2.2.p ((lv.map (·.2)).drop ζ.1) = eP ∧ (ζ.1 < n → Yc ζ.2.2.p = true)) (fun (ζ : (Nat) × (Hp) × (AnD)) => n - ζ.1) ((0, ρ', d)) (⟨Nat.zero_le _, Hp.le_refl _, hd1.mono hz2, hE, hPP, fun _ => hq⟩) Ze Ze rfl tk ?_
 rintro ⟨j, ρ1, w⟩ hI
 try simp only [List.cons_append, List.nil_append, List.append_assoc, List.append_eq] at hI ⊢
 try dsimp only at hI ⊢
 obtain ⟨hj, hle1, hw, he, hp, hwr⟩ := hI
 have h01 := Hp.le_trans hz1 (Hp.le_trans hz2 hle1)
 have hdd := hd0.mono h01
 have hd1w := hd1'.mono hle1
 by_cases hlt2 : j < n
 ·obtain ⟨b, off, C, T, fr, e1, hb, hfit, hcc⟩ := (hA.mono h01).get (show j < lv.length by omega)
  have hx := (hin _ (List.getElem_mem (show j < lv.length by omega))).mono (Hp.le_trans hz2 hle1)
  have hd : (lv.map (·.2)).drop j = (lv[j]'(by omega)).2 :: (lv.map (·.2)).drop (j + 1) := by
   rw [List.drop_eq_getElem_cons (by simp; omega), List.getElem_map]
  rw [hd, runE] at he
  rw [hd, runP] at hp
  generalize lv[j]'(by omega) = y at *
  have hS := step23_spec ρ1 w hw y.1 y.2 hx (hwr hlt2)
  unfold XD at hS
  rw [e1]
  by_cases h0 : YN w.p y.2 = 0
  ·rw [if_pos h0] at he hp
   rw [h0] at hS
   have hkeep := stepP_right (a := w.p) h0
   repeat' (first | (refine Zc (.func 32) ?_; refine qC rfl rfl (hS) ?_; rintro v ρ' L' hle ⟨hz3, w2, rfl, hw2, hp2, rfl⟩ <;> (try simp only [kM, kN, kO])) | refine zV ?_ | intro _)
   rw [← e1]
   refine Zg (j + 1, ρ', w2) (⟨hlt2, Hp.le_trans hle1 hz3, hw2, by rw [hp2]; exact he, by rw [hp2]; exact hp, fun _ => by rw [hp2]; exact hkeep⟩) Ze Ze rfl tk inferInstance (by first | omega | (dsimp only; omega))
  ·rw [if_neg h0] at he hp
   have hz0 : Wb w.p y.2 = zeroA := by unfold Wb; rw [if_neg h0]
   rw [he, hz0, hp] at hS
   rw [he] at h0
   repeat' (first | (refine Zc (.func 32) ?_; refine qC rfl rfl (hS) ?_; rintro v ρ' L' hle ⟨hz3, w2, rfl, hw2, hp2, rfl⟩ <;> (try simp only [kM, kN, kO])) | refine zV ?_ | intro _)
   have hS1 := Wa ρ' d1 w2 (hd1w.mono hz3) hw2 (hp1.trans hp2.symm)
   have hS2 := same23_spec ρ' d1 d (hd1w.mono hz3) (hdd.mono hz3)
   have hS3 := same_an_spec ρ' d1 d (hd1w.mono hz3) (hdd.mono hz3)
   generalize decide (d1.p = d.p) = qd at *
   refine Zu (Zk _ _ _) Zp ?_
   all_goals (refine Zx 0 ?_; refine Zx 1 ?_; refine rCm 2 ?_; refine Zx 3 ?_; (first | refine Zb 4 ?_ | refine Za 4 ?_ | refine ZL 4 ?_); (first | refine Zb 5 ?_ | refine Za 5 ?_ | refine ZL 5 ?_))
   all_goals (first | refine Zb 6 ?_ | refine Za 6 ?_ | (refine Zj (i := 6) ?_; ((try refine Zh ?_); (first | (refine Zc (.func 25) ?_; refine qC rfl rfl (hS1) ?_; rintro v ρ' L' hle ⟨rfl, rfl, rfl⟩ <;> (try simp only [kM, kN, kO])) | (refine Zc (.func 25) ?_; refine qC rfl rfl (hS2) ?_; rintro v ρ' L' hle ⟨rfl, rfl, rfl⟩ <;> (try simp only [kM, kN, kO])) | (refine ZF ?_; try intro _)) <;> ((try simp only [kM, kN, kO]); refine Zf ?_; refine Zi ?_))))
   all_goals (refine Yj 7 ?_; refine Zx 8 ?_; (first | refine Zb 9 ?_ | refine Za 9 ?_ | refine ZL 9 ?_); (first | refine Zb 10 ?_ | refine Za 10 ?_ | refine ZL 10 ?_); (first | refine Zb 12 ?_ | refine Za 12 ?_ | refine ZL 12 ?_); (first | refine Zb 13 ?_ | refine Za 13 ?_ | refine ZL 13 ?_))
   all_goals (first | refine Zb 11 ?_ | refine Za 11 ?_ | (refine Zj (i := 11) ?_; ((try refine Zh ?_); (first | (refine Zc (.func 34) ?_; refine qC rfl rfl (hS3) ?_; rintro v ρ' L' hle ⟨rfl, rfl, rfl⟩ <;> (try simp only [kM, kN, kO])) | (refine ZF ?_; try intro _)) <;> ((try simp only [kM, kN, kO]); refine Zf ?_; refine Zi ?_))))
   all_goals (first | refine Zb 14 ?_ | refine Za 14 ?_ | (refine Zj (i := 14) ?_; ((try refine Zh ?_); (first | (refine Zc (.func 25) ?_; refine qC rfl rfl (hS1) ?_; rintro v ρ' L' hle ⟨rfl, rfl, rfl⟩ <;> (try simp only [kM, kN, kO])) | (refine Zc (.func 25) ?_; refine qC rfl rfl (hS2) ?_; rintro v ρ' L' hle ⟨rfl, rfl, rfl⟩ <;> (try simp only [kM, kN, kO])) | (refine ZF ?_; try intro _)) <;> ((try simp only [kM, kN, kO]); refine Zf ?_; refine Zi ?_))))
   all_goals ((first | refine Zb 15 ?_ | refine Za 15 ?_ | refine Yg 15 ?_); refine Yj 16 ?_; refine Zx 17 ?_; (first | refine Zb 18 ?_ | refine Za 18 ?_ | refine wBu 18 ?_))
   all_goals (first | refine Zb 19 ?_ | refine Za 19 ?_ | (refine Zj (i := 19) ?_; ((try refine Zh ?_); (first | (refine Zc (.func 36) ?_; refine qC rfl rfl (hR12 _) ?_; rintro v ρ' L' hle ⟨rfl, rfl, rfl⟩ <;> (try simp only [kM, kN, kO])) | (refine ZF ?_; try intro _)) <;> ((try simp only [kM, kN, kO]); refine Zf ?_; refine Zi ?_))))
   all_goals (refine Zz ?_; refine Yj 20 ?_; refine rAs 21 ?_; refine Zv ?_)
   all_goals (repeat' (first | refine zV ?_ | intro _))
   all_goals exact qE (L' := []) (hle := Hp.le_trans h01 hz3) ⟨rfl, Hp.le_trans h01 hz3, rfl⟩
 ·have hk2 : (lv.map (·.2)).drop j = [] := List.drop_of_length_le (by simp; omega)
  rw [hk2, runE] at he
  rw [hk2, runP] at hp
  subst he
  have hS1 := Wa ρ1 d1 w hd1w hw (hp1.trans hp.symm)
  have hS2 := same23_spec ρ1 d1 d hd1w hdd
  have hS3 := same_an_spec ρ1 d1 d hd1w hdd
  generalize decide (d1.p = d.p) = qd at *
  repeat' (first | refine zV ?_ | intro _)
  refine Zu (Zk _ _ _) Zp ?_
  all_goals (refine Zx 0 ?_; refine Zx 1 ?_; refine rCm 2 ?_; refine Zx 3 ?_; (first | refine Zb 4 ?_ | refine Za 4 ?_ | refine ZL 4 ?_); (first | refine Zb 5 ?_ | refine Za 5 ?_ | refine ZL 5 ?_))
  all_goals (first | refine Zb 6 ?_ | refine Za 6 ?_ | (refine Zj (i := 6) ?_; ((try refine Zh ?_); (first | (refine Zc (.func 25) ?_; refine qC rfl rfl (hS1) ?_; rintro v ρ' L' hle ⟨rfl, rfl, rfl⟩ <;> (try simp only [kM, kN, kO])) | (refine Zc (.func 25) ?_; refine qC rfl rfl (hS2) ?_; rintro v ρ' L' hle ⟨rfl, rfl, rfl⟩ <;> (try simp only [kM, kN, kO])) | (refine ZF ?_; try intro _)) <;> ((try simp only [kM, kN, kO]); refine Zf ?_; refine Zi ?_))))
  all_goals (refine Yj 7 ?_; refine Zx 8 ?_; (first | refine Zb 9 ?_ | refine Za 9 ?_ | refine ZL 9 ?_); (first | refine Zb 10 ?_ | refine Za 10 ?_ | refine ZL 10 ?_); (first | refine Zb 12 ?_ | refine Za 12 ?_ | refine ZL 12 ?_); (first | refine Zb 13 ?_ | refine Za 13 ?_ | refine ZL 13 ?_))
  all_goals (first | refine Zb 11 ?_ | refine Za 11 ?_ | (refine Zj (i := 11) ?_; ((try refine Zh ?_); (first | (refine Zc (.func 34) ?_; refine qC rfl rfl (hS3) ?_; rintro v ρ' L' hle ⟨rfl, rfl, rfl⟩ <;> (try simp only [kM, kN, kO])) | (refine ZF ?_; try intro _)) <;> ((try simp only [kM, kN, kO]); refine Zf ?_; refine Zi ?_))))
  all_goals (first | refine Zb 14 ?_ | refine Za 14 ?_ | (refine Zj (i := 14) ?_; ((try refine Zh ?_); (first | (refine Zc (.func 25) ?_; refine qC rfl rfl (hS1) ?_; rintro v ρ' L' hle ⟨rfl, rfl, rfl⟩ <;> (try simp only [kM, kN, kO])) | (refine Zc (.func 25) ?_; refine qC rfl rfl (hS2) ?_; rintro v ρ' L' hle ⟨rfl, rfl, rfl⟩ <;> (try simp only [kM, kN, kO])) | (refine ZF ?_; try intro _)) <;> ((try simp only [kM, kN, kO]); refine Zf ?_; refine Zi ?_))))
  all_goals ((first | refine Zb 15 ?_ | refine Za 15 ?_ | refine Yg 15 ?_); refine Yj 16 ?_; refine Zx 17 ?_; (first | refine Zb 18 ?_ | refine Za 18 ?_ | refine wBu 18 ?_))
  all_goals (first | refine Zb 19 ?_ | refine Za 19 ?_ | (refine Zj (i := 19) ?_; ((try refine Zh ?_); (first | (refine Zc (.func 36) ?_; refine qC rfl rfl (hR12 _) ?_; rintro v ρ' L' hle ⟨rfl, rfl, rfl⟩ <;> (try simp only [kM, kN, kO])) | (refine ZF ?_; try intro _)) <;> ((try simp only [kM, kN, kO]); refine Zf ?_; refine Zi ?_))))
  all_goals (refine Zz ?_; refine Yj 20 ?_; refine rAs 21 ?_; refine Zv ?_)
  all_goals (repeat' (first | refine zV ?_ | intro _))
  all_goals exact qE (L' := []) (hle := h01) ⟨rfl, h01, rfl⟩
end Go.Proofs.E
