/- Laws of analysis. Part 29 of 41. -/
import Derived.Test.YtkbiahafeoillaaGreatA28
namespace Go.Proofs.E
open Go
set_option linter.unusedVariables false
set_option linter.unusedSimpArgs false
set_option linter.unusedSectionVars false
set_option maxRecDepth 4000
set_option maxHeartbeats 1000000
attribute [local irreducible] Yl TL TC TE Spec Xb R1 Hp.le EnvLe TS TR YS Zk
abbrev XD (ρ : Hp) (p : AnP) (r : Rc) : Value → Hp → SH → Prop :=
 fun z ρ' L' => ρ.le ρ' ∧ ∃ d' : AnD, z = .tuple ⟨[.agg ⟨anV d'⟩, .int .i64 (YN p r)]⟩ ∧ AnIn ρ' d' ∧ d'.p = Wb p r ∧ L' = []
theorem step0_spec (ρ : Hp) (d : AnD) (h : AnIn ρ d) (rv : RV) (r : Rc) (hr : RcIn ρ rv r) (hx : Yc d.p = false ∨ d.next = d.fin ∨ ZU r = false ∨ r.lsn ≠ d.next) :
  Spec Tryz.prog 29 [.agg ⟨anV d⟩, .agg ⟨Yx rv r⟩] ρ [] (XD ρ d.p r) := by
 have hR := Xq ρ d h
 have hK := WA ρ rv r hr
 have fin : ∀ e : Int, YN d.p r = e → e ≠ 0 → Wb d.p r = zeroA := fun e h1 h2 => by unfold Wb; rw [h1, if_neg h2]
 unfold XD
 refine Zd Tryz.func29 rfl rfl rfl fun u R => ?_
 simp only [Zo, List.cons_append, List.nil_append]
 cases hq : Yc d.p
 case' false =>
  have e : YN d.p r = 330 := by unfold YN; rw [hq]; rfl
  have e2 := fin _ e (by decide)
  rw [hq] at hR
  rw [e, e2]
  repeat' (first | (refine Zc (.func 58) ?_; refine qC rfl rfl (hR) ?_; rintro v ρ' L' hle ⟨rfl, rfl, rfl⟩ <;> (try simp only [kM, kN, kO])) | refine zV ?_ | intro _)
  exact qE (L' := []) ⟨Hp.le_refl _, Wn, rfl, YT, rfl, rfl⟩
 rw [hq] at hR hx
 by_cases hn : d.next = d.fin
 case' pos =>
  have e : YN d.p r = 2 := by unfold YN; rw [hq, if_pos rfl, if_pos hn]
  have e2 := fin _ e (by decide)
  rw [e, e2]
  repeat' (first | (refine Zc (.func 58) ?_; refine qC rfl rfl (hR) ?_; rintro v ρ' L' hle ⟨rfl, rfl, rfl⟩ <;> (try simp only [kM, kN, kO])) | refine zV ?_ | intro _)
  exact qE (L' := []) ⟨Hp.le_refl _, Wn, rfl, YT, rfl, rfl⟩
 cases hok : ZU r
 case' false =>
  have e : YN d.p r = 220 := by unfold YN; rw [hq, if_pos rfl, if_neg hn, hok]; rfl
  have e2 := fin _ e (by decide)
  rw [hok] at hK
  rw [e, e2]
  repeat' (first | (refine Zc (.func 58) ?_; refine qC rfl rfl (hR) ?_; rintro v ρ' L' hle ⟨rfl, rfl, rfl⟩ <;> (try simp only [kM, kN, kO])) | (refine Zc (.func 52) ?_; refine qC rfl rfl (hK) ?_; rintro v ρ' L' hle ⟨rfl, rfl, rfl⟩ <;> (try simp only [kM, kN, kO, if_false, Bool.false_eq_true])) | refine zV ?_ | intro _)
  exact qE (L' := []) ⟨Hp.le_refl _, Wn, rfl, YT, rfl, rfl⟩
 rw [hok] at hK hx
 have hl : r.lsn ≠ d.next := by simpa [hn] using hx
 have e : YN d.p r = 2 := by unfold YN; rw [hq, if_pos rfl, if_neg hn, hok, if_pos rfl, if_pos hl]
 have e2 := fin _ e (by decide)
 rw [e, e2]
 repeat' (first | (refine Zc (.func 58) ?_; refine qC rfl rfl (hR) ?_; rintro v ρ' L' hle ⟨rfl, rfl, rfl⟩ <;> (try simp only [kM, kN, kO])) | (refine Zc (.func 52) ?_; refine qC rfl rfl (hK) ?_; rintro v ρ' L' hle ⟨rfl, rfl, rfl⟩ <;> (try simp only [kM, kN, kO, if_true])) | refine zV ?_ | intro _)
 exact qE (L' := []) ⟨Hp.le_refl _, Wn, rfl, YT, rfl, rfl⟩
theorem onA_some {a q : AnP} {r : Rc} (h : WJ a r = some q) : onA a r = if Yc { q with next := q.next + 1 } then some { q with next := q.next + 1 } else none := by
 unfold onA; rw [h]
theorem onA_none {a : AnP} {r : Rc} (h : WJ a r = none) : onA a r = none := by
 unfold onA; rw [h]
theorem stepE_on {a : AnP} {r : Rc} (h1 : Yc a = true) (h2 : a.next ≠ a.fin) (h3 : ZU r = true) (h4 : r.lsn = a.next) : YN a r = (if (onA a r).isSome then 0 else 331) ∧ Wb a r = (onA a r).getD zeroA := by
 have e : YN a r = (if (onA a r).isSome then 0 else 331) := by
  unfold YN; rw [h1, if_pos rfl, if_neg h2, h3, if_pos rfl, if_neg (by omega)]
 refine ⟨e, ?_⟩
 unfold Wb
 rw [e]
 cases onA a r <;> rfl
theorem step_no (ρ : Hp) (d : AnD) (h : AnIn ρ d) (rv : RV) (r : Rc) (hr : RcIn ρ rv r) (h1 : Yc d.p = true) (h2 : d.next ≠ d.fin) (h3 : ZU r = true) (h4 : r.lsn = d.next) (ho : WJ d.p r = none) :
  Spec Tryz.prog 29 [.agg ⟨anV d⟩, .agg ⟨Yx rv r⟩] ρ [] (XD ρ d.p r) := by
 have hR := Xq ρ d h
 have hK := WA ρ rv r hr
 obtain ⟨f1, f2, f3, _⟩ := rightA_iff.1 h1
 rw [h1] at hR
 rw [h3] at hK
 obtain ⟨e1, e2⟩ := stepE_on (a := d.p) h1 h2 h3 h4
 rw [onA_none ho] at e1 e2
 have e1 : YN d.p r = 331 := e1
 have e2 : Wb d.p r = zeroA := e2
 have hAt := fun b => at_an_spec ρ b d h rv r hr f2
 have hAh := fun b => ahead_spec ρ b d h rv r hr f2 h3
 have hBe := fun b => behind_an_spec ρ b d h rv r hr f2 h3 f3
 unfold XD
 rw [e1, e2]
 refine Zd Tryz.func29 rfl rfl rfl fun u R => ?_
 simp only [Zo, List.cons_append, List.nil_append]
 rcases Nat.lt_trichotomy d.next d.master with hc | hc | hc
 ·rw [← readA_ahead (a := d.p) hc, ho] at hAh
  repeat' (first | (refine Zc (.func 58) ?_; refine qC rfl rfl (hR) ?_; rintro v ρ' L' hle ⟨rfl, rfl, rfl⟩ <;> (try simp only [kM, kN, kO])) | (refine Zc (.func 52) ?_; refine qC rfl rfl (hK) ?_; rintro v ρ' L' hle ⟨rfl, rfl, rfl⟩ <;> (try simp only [kM, kN, kO, if_true])) | (refine Zc (.tmp 61) ?_; refine qC rfl rfl (hAh _) ?_; rintro v ρ' L' hle ⟨hz1, d1, rfl, hd1, hp1, rfl⟩ <;> (try simp only [kM, kN, kO])) | refine zV ?_ | intro _)
  exact qE (L' := []) ⟨hz1, Wn, rfl, YT, rfl, rfl⟩
 ·rw [← readA_at (a := d.p) hc, ho] at hAt
  repeat' (first | (refine Zc (.func 58) ?_; refine qC rfl rfl (hR) ?_; rintro v ρ' L' hle ⟨rfl, rfl, rfl⟩ <;> (try simp only [kM, kN, kO])) | (refine Zc (.func 52) ?_; refine qC rfl rfl (hK) ?_; rintro v ρ' L' hle ⟨rfl, rfl, rfl⟩ <;> (try simp only [kM, kN, kO, if_true])) | (refine Zc (.tmp 61) ?_; refine qC rfl rfl (hAt _) ?_; rintro v ρ' L' hle ⟨hz1, d1, rfl, hd1, hp1, rfl⟩ <;> (try simp only [kM, kN, kO])) | refine zV ?_ | intro _)
  exact qE (L' := []) ⟨hz1, Wn, rfl, YT, rfl, rfl⟩
 ·rw [← readA_beh (a := d.p) hc, ho] at hBe
  repeat' (first | (refine Zc (.func 58) ?_; refine qC rfl rfl (hR) ?_; rintro v ρ' L' hle ⟨rfl, rfl, rfl⟩ <;> (try simp only [kM, kN, kO])) | (refine Zc (.func 52) ?_; refine qC rfl rfl (hK) ?_; rintro v ρ' L' hle ⟨rfl, rfl, rfl⟩ <;> (try simp only [kM, kN, kO, if_true])) | (refine Zc (.tmp 61) ?_; refine qC rfl rfl (hBe _) ?_; rintro v ρ' L' hle ⟨hz1, d1, rfl, hd1, hp1, rfl⟩ <;> (try simp only [kM, kN, kO])) | refine zV ?_ | intro _)
  exact qE (L' := []) ⟨hz1, Wn, rfl, YT, rfl, rfl⟩
theorem step_yes (ρ : Hp) (d : AnD) (h : AnIn ρ d) (rv : RV) (r : Rc) (hr : RcIn ρ rv r) (h1 : Yc d.p = true) (h2 : d.next ≠ d.fin) (h3 : ZU r = true) (h4 : r.lsn = d.next) {q : AnP} (ho : WJ d.p r = some q) :
  Spec Tryz.prog 29 [.agg ⟨anV d⟩, .agg ⟨Yx rv r⟩] ρ [] (XD ρ d.p r) := by
 have hR := Xq ρ d h
 have hK := WA ρ rv r hr
 obtain ⟨f1, f2, f3, _⟩ := rightA_iff.1 h1
 rw [h1] at hR
 rw [h3] at hK
 obtain ⟨e1, e2⟩ := stepE_on (a := d.p) h1 h2 h3 h4
 rw [onA_some ho] at e1 e2
 have hsame := readA_same ho
 unfold spansB at f1
 rw [decide_eq_true_eq] at f1
 have hnb : d.next ≤ 1099511627776 := by
  have g1 : d.p.next = d.next := rfl
  omega
 have conv : ∀ b z ρ' L', RdPost ρ b (some q) rv r z ρ' L' → ρ.le ρ' ∧ ∃ d' : AnD, z = .bool true ∧ AnIn ρ' d' ∧ d'.next ≤ 1099511627776 ∧ ({ d' with next := d'.next + 1 } : AnD).p = { q with next := q.next + 1 } ∧ L' = [rdA b d' rv r] := by
  rintro b z ρ' L' ⟨g1, d', g2, g3, g4, g5⟩
  have g6 := g4 q rfl
  refine ⟨g1, d', g2, g3, ?_, by rw [← g6], g5⟩
  have g7 : d'.p.next = d.p.next := by rw [g6]; exact hsame.2.2.2
  have g8 : d'.next = d.next := g7
  omega
 have hR3 : ∀ (ρ1 : Hp) (d1 : AnD), AnIn ρ1 d1 → ({ d1 with next := d1.next + 1 } : AnD).p = { q with next := q.next + 1 } → Spec Tryz.prog 58 [.agg ⟨[.int .u64 d1.base, .int .u64 d1.master, .int .u64 d1.fin, .int .u64 ((d1.next : Int) + 1), .int .i64 d1.ro.next, .slice d1.rv.a d1.rv.n d1.rv.c, .slice d1.dv.a d1.dv.n d1.dv.c]⟩] ρ1 [] (fun z ρ' L' => z = .bool (Yc { q with next := q.next + 1 }) ∧ ρ' = ρ1 ∧ L' = []) := fun ρ1 d1 g1 g2 => by
  have := Xq ρ1 { d1 with next := d1.next + 1 } ⟨g1.r, g1.d⟩
  rw [g2] at this
  exact this
 cases hb : Yc { q with next := q.next + 1 }
 all_goals (
  rw [hb] at e1 e2 hR3
  simp only [if_true, Bool.false_eq_true, if_false, Option.isSome_some, Option.isSome_none, Option.getD_some, Option.getD_none] at e1 e2
  unfold XD
  rw [e1, e2]
  refine Zd Tryz.func29 rfl rfl rfl fun u R => ?_
  simp only [Zo, List.cons_append, List.nil_append]
  rcases Nat.lt_trichotomy d.next d.master with hc | hc | hc)
 all_goals first
  | (have hW := fun b => ahead_spec ρ b d h rv r hr f2 h3; rw [← readA_ahead (a := d.p) hc, ho] at hW; replace hW := fun b => (hW b).mono (fun z ρ' L' _ h => conv b z ρ' L' h))
  | (have hW := fun b => at_an_spec ρ b d h rv r hr f2; rw [← readA_at (a := d.p) hc, ho] at hW; replace hW := fun b => (hW b).mono (fun z ρ' L' _ h => conv b z ρ' L' h))
  | (have hW := fun b => behind_an_spec ρ b d h rv r hr f2 h3 f3; rw [← readA_beh (a := d.p) hc, ho] at hW; replace hW := fun b => (hW b).mono (fun z ρ' L' _ h => conv b z ρ' L' h))
 all_goals (repeat' (first | (refine Zc (.func 58) ?_; refine qC rfl rfl (hR) ?_; rintro v ρ' L' hle ⟨rfl, rfl, rfl⟩ <;> (try simp only [kM, kN, kO])) | (refine Zc (.func 52) ?_; refine qC rfl rfl (hK) ?_; rintro v ρ' L' hle ⟨rfl, rfl, rfl⟩ <;> (try simp only [kM, kN, kO, if_true])) | (refine Zc (.tmp 61) ?_; refine qC rfl rfl (hW _) ?_; rintro v ρ' L' hle ⟨hz1, d1, rfl, hd1, hn1, hp1, rfl⟩ <;> (try simp only [kM, kN, kO])) | (refine Zc (.func 58) ?_; refine qC rfl rfl (hR3 _ d1 hd1 hp1) ?_; rintro v ρ' L' hle ⟨rfl, rfl, rfl⟩ <;> (try simp only [kM, kN, kO])) | refine zV ?_ | intro _))
 all_goals first
  | exact qE (L' := []) ⟨hz1, Wn, rfl, YT, rfl, rfl⟩
  | exact qE (L' := []) ⟨hz1, { d1 with next := d1.next + 1 }, rfl, ⟨hd1.r, hd1.d⟩, hp1, rfl⟩
end Go.Proofs.E
