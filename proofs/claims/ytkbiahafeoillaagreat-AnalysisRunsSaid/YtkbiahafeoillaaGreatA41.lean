/- Laws of analysis. Part 41 of 41. -/
import Derived.Test.YtkbiahafeoillaaGreatA40
namespace Go.Proofs.E
open Go
set_option linter.unusedVariables false
set_option linter.unusedSimpArgs false
set_option linter.unusedSectionVars false
set_option maxRecDepth 4000
set_option maxHeartbeats 1000000
attribute [local irreducible] Yl TL TC TE Spec Xb R1 Hp.le EnvLe TS TR YS Zk
theorem takesP_next (p : Xh) (r : Rc) : p.next ≤ (Xn p r).next := by
 unfold Xn ownP
 repeat' split
 all_goals first | exact Int.le_refl _ | (show p.next ≤ p.next + 1; omega)
theorem tkA_next {a q : AnP} {p : Xh} {l : List Yq} {r : Rc} (h : tkA a p l r = some q) : p.next ≤ q.ros.next := by
 unfold tkA at h
 split at h
 ·cases h; exact takesP_next p r
 ·cases h
theorem readA_next {a q : AnP} {r : Rc} (h : WJ a r = some q) : a.ros.next ≤ q.ros.next := by
 rcases Nat.lt_trichotomy a.next a.master with hc | hc | hc
 ·rw [readA_ahead hc] at h
  unfold aheadA at h
  split at h
  ·split at h
   ·cases h
   ·rename_i hn
    have := tkA_next h
    dsimp only at this
    omega
  ·split at h
   ·cases h; exact Int.le_refl _
   ·exact tkA_next h
 ·rw [readA_at hc] at h
  unfold atA at h
  split at h
  ·cases h
  ·rename_i hn
   cases h
   show a.ros.next ≤ r.nextTxn
   refine Int.not_lt.1 fun c => hn (.inr (.inl c))
 ·rw [readA_beh hc] at h
  exact tkA_next h
theorem keepsLaw_spec (ρ : Hp) (d : AnD) (hW : AnW ρ d) (a : Option Addr) (n c : Nat) (lv : List (RV × Rc)) (hA : AIn ρ 10 lvV a n lv) (hP : ∀ x ∈ lv, RcW ρ x.1 x.2) (hn : n ≤ 9223372036854775807) :
  Spec Tryz.prog 5 [.agg ⟨anV d⟩, .slice a n c] ρ [] (fun z ρ' L' => z = .bool true ∧ ρ.le ρ' ∧ L' = []) := by
 have hl := hA.len
 have hO := fun ρ1 (h : ρ.le ρ1) => over23_spec ρ1 d (hW.mono h)
 refine Zd Tryz.func5 rfl rfl rfl fun u R => ?_
 simp only [Zo, List.cons_append, List.nil_append]
 cases hoA : overAB d
 case' true =>
  rw [hoA] at hO
  repeat' (first | (refine Zc (.func 21) ?_; refine qC rfl rfl (YA _) ?_; rintro v ρ' L' hle ⟨rfl, hz1, rfl⟩ <;> (try simp only [kM, kN, kO])) | (refine Zc (.func 26) ?_; refine qC rfl rfl (hO _ hz1) ?_; rintro v ρ' L' hle ⟨rfl, rfl, rfl⟩ <;> (try simp only [kM, kN, kO])) | refine zV ?_ | intro _)
  exact qE (L' := []) ⟨rfl, hz1, rfl⟩
 rw [hoA] at hO
 by_cases h60 : 60 < n
 case' pos =>
  repeat' (first | (refine Zc (.func 21) ?_; refine qC rfl rfl (YA _) ?_; rintro v ρ' L' hle ⟨rfl, hz1, rfl⟩ <;> (try simp only [kM, kN, kO])) | (refine Zc (.func 26) ?_; refine qC rfl rfl (hO _ hz1) ?_; rintro v ρ' L' hle ⟨rfl, rfl, rfl⟩ <;> (try simp only [kM, kN, kO])) | refine zV ?_ | intro _)
  exact qE (L' := []) ⟨rfl, hz1, rfl⟩
 have hd0 := (hW.ofOver hoA).1
 have hC := fun ρ1 (h : ρ.le ρ1) => Wc ρ1 d (hd0.mono h)
 cases hq : Yc d.p
 case' false =>
  rw [hq] at hC
  simp only [Bool.false_eq_true, if_false] at hC
  repeat' (first | (refine Zc (.func 21) ?_; refine qC rfl rfl (YA _) ?_; rintro v ρ' L' hle ⟨rfl, hz1, rfl⟩ <;> (try simp only [kM, kN, kO])) | (refine Zc (.func 26) ?_; refine qC rfl rfl (hO _ hz1) ?_; rintro v ρ' L' hle ⟨rfl, rfl, rfl⟩ <;> (try simp only [kM, kN, kO])) | (refine Zc (.func 27) ?_; refine qC rfl rfl (hC _ hz1) ?_; rintro v ρ' L' hle ⟨rfl, rfl, rfl⟩ <;> (try simp only [kM, kN, kO])) | refine zV ?_ | intro _)
  exact qE (L' := []) ⟨rfl, hz1, rfl⟩
 rw [hq] at hC
 simp only [if_true] at hC
 repeat' (first | (refine Zc (.func 21) ?_; refine qC rfl rfl (YA _) ?_; rintro v ρ' L' hle ⟨rfl, hz1, rfl⟩ <;> (try simp only [kM, kN, kO])) | (refine Zc (.func 26) ?_; refine qC rfl rfl (hO _ hz1) ?_; rintro v ρ' L' hle ⟨rfl, rfl, rfl⟩ <;> (try simp only [kM, kN, kO])) | (refine Zc (.func 27) ?_; refine qC rfl rfl (hC _ hz1) ?_; rintro v ρ' L' hle ⟨rfl, rfl, rfl⟩ <;> (try simp only [kM, kN, kO])) | refine zV ?_ | intro _)
 refine Zq [(2, _), (23, _), (24, _)] (fun (ζ : (Nat) × (Hp) × (AnD)) => [(25, .int .i64 ζ.1), (4, .bool false)]) (fun (ζ : (Nat) × (Hp) × (AnD)) => ζ.2.1) (fun (ζ : (Nat) × (Hp) × (AnD)) => [anC _ ζ.2.2]) (fun (ζ : (Nat) × (Hp) × (AnD)) => ζ.1 ≤ n ∧ ρ'.le ζ.2.1 ∧ AnIn ζ.2.1 ζ.2.2 ∧ Yc ζ.2.2.p = true) (fun (ζ : (Nat) × (Hp) × (AnD)) => n - ζ.1) ((0, ρ', d)) (⟨Nat.zero_le _, Hp.le_refl _, hd0.mono hz1, hq⟩) Ze Ze rfl tk ?_
 rintro ⟨k, ρ1, w⟩ hI
 try simp only [List.cons_append, List.nil_append, List.append_assoc, List.append_eq] at hI ⊢
 try dsimp only at hI ⊢
 obtain ⟨hk, hle1, hw, hwr⟩ := hI
 have h01 := Hp.le_trans hz1 hle1
 by_cases hlt : k < n
 ·obtain ⟨b, off, C, T, fr, e1, hb, hfit, hcc⟩ := (hA.mono h01).get (show k < lv.length by omega)
  have hx := (hP _ (List.getElem_mem (show k < lv.length by omega))).mono h01
  generalize lv[k]'(by omega) = y at *
  have hOR := WI ρ1 y.1 y.2 hx
  rw [e1]
  cases hoR : overRB y.1 y.2
  case' true =>
   rw [hoR] at hOR
   repeat' (first | (refine Zc (.func 28) ?_; refine qC rfl rfl (hOR) ?_; rintro v ρ' L' hle ⟨rfl, rfl, rfl⟩ <;> (try simp only [kM, kN, kO])) | refine zV ?_ | intro _)
   exact qE (L' := []) (hle := h01) ⟨rfl, h01, rfl⟩
  rw [hoR] at hOR
  have hS := step_an_spec ρ1 w hw y.1 y.2 (hx.ofOver hoR).1
  have hOv := fun ρ2 (h : ρ1.le ρ2) => over_an_spec ρ2 w (hw.mono h)
  rw [hwr] at hOv
  simp only [Bool.true_and] at hOv
  unfold XD at hS
  by_cases h0 : YN w.p y.2 = 0
  ·rw [h0] at hS
   obtain ⟨f1, f2, f3, f4, q, f5, f6⟩ := stepP_facts h0
   have hsame := readA_same f5
   have hnx := readA_next f5
   have hS2 : Spec Tryz.prog 29 [.agg ⟨anV w⟩, .agg ⟨Yx y.1 y.2⟩] ρ1 [] (fun z ρ' L' => ρ1.le ρ' ∧ ∃ d' : AnD, z = .tuple ⟨[.agg ⟨anV d'⟩, .int .i64 0]⟩ ∧ AnIn ρ' d' ∧ d'.p = Wb w.p y.2 ∧ (d'.next = w.next + 1 ∧ w.ro.next ≤ d'.ro.next) ∧ L' = []) := by
    refine hS.mono ?_
    rintro z ρ' L' _ ⟨g1, d', g2, g3, g4, g5⟩
    refine ⟨g1, d', g2, g3, g4, ⟨?_, ?_⟩, g5⟩
    ·have : d'.p.next = q.next + 1 := by rw [g4, f6]
     have h2 : q.next = w.p.next := hsame.2.2.2
     have h3 : d'.next = q.next + 1 := this
     have h4 : w.p.next = w.next := rfl
     omega
    ·have : d'.p.ros.next = q.ros.next := by rw [g4, f6]
     have h3 : d'.ro.next = q.ros.next := this
     have h4 : w.p.ros.next = w.ro.next := rfl
     omega
   have hlsn : y.2.lsn = w.next := f4
   have hfin : ¬ w.next = w.fin := f3
   have hnb : w.next ≤ 1099511627776 := by
    have := (rightA_iff.1 hwr).1
    unfold spansB at this
    rw [decide_eq_true_eq] at this
    have g1 : w.p.next = w.next := rfl
    omega
   rw [decide_eq_false hfin] at hOv
   have hC2 := fun ρ2 d2 (h : AnIn ρ2 d2) (e : d2.p = Wb w.p y.2) => Wc ρ2 d2 h
   have hC3 : ∀ ρ2 d2 (h : AnIn ρ2 d2) (e : d2.p = Wb w.p y.2), Spec Tryz.prog 27 [.agg ⟨anV d2⟩] ρ2 [] (fun z ρ' L' => z = .int .i64 0 ∧ ρ' = ρ2 ∧ L' = []) := fun ρ2 d2 h e => by
    have := Wc ρ2 d2 h
    rw [e, f1] at this
    exact this
   clear hC2
   repeat' (first | (refine Zc (.func 28) ?_; refine qC rfl rfl (hOR) ?_; rintro v ρ' L' hle ⟨rfl, rfl, rfl⟩ <;> (try simp only [kM, kN, kO])) | (refine Zc (.func 29) ?_; refine qC rfl rfl (hS2) ?_; rintro v ρ' L' hle ⟨hz2, d2, rfl, hd2, hp2, ⟨hn1, hn2⟩, rfl⟩ <;> (try simp only [kM, kN, kO])) | (refine Zc (.func 30) ?_; refine qC rfl rfl (hOv _ hz2) ?_; rintro v ρ' L' hle ⟨rfl, rfl, rfl⟩ <;> (try simp only [kM, kN, kO])) | (refine Zc (.func 27) ?_; refine qC rfl rfl (hC3 _ d2 hd2 hp2) ?_; rintro v ρ' L' hle ⟨rfl, rfl, rfl⟩ <;> (try simp only [kM, kN, kO])) | refine zV ?_ | intro _)
   rw [← e1]
   refine Zg (k + 1, ρ', d2) (⟨hlt, Hp.le_trans hle1 hz2, hd2, by rw [hp2]; exact f1⟩) Ze Ze rfl tk inferInstance (by first | omega | (dsimp only; omega))
  ·generalize YN w.p y.2 = se at *
   by_cases hfn : w.next = w.fin
   all_goals simp only [hfn, decide_true, decide_false] at hOv
   all_goals (repeat' (first | (refine Zc (.func 28) ?_; refine qC rfl rfl (hOR) ?_; rintro v ρ' L' hle ⟨rfl, rfl, rfl⟩ <;> (try simp only [kM, kN, kO])) | (refine Zc (.func 29) ?_; refine qC rfl rfl (hS) ?_; rintro v ρ' L' hle ⟨hz2, d2, rfl, hd2, hp2, rfl⟩ <;> (try simp only [kM, kN, kO])) | (refine Zc (.func 30) ?_; refine qC rfl rfl (hOv _ hz2) ?_; rintro v ρ' L' hle ⟨rfl, rfl, rfl⟩ <;> (try simp only [kM, kN, kO])) | refine zV ?_ | intro _))
   all_goals rw [← e1]
   all_goals refine Zg (k + 1, ρ', w) (⟨hlt, Hp.le_trans hle1 hz2, hw.mono hz2, hwr⟩) Ze Ze rfl tk inferInstance (by first | omega | (dsimp only; omega))
 ·repeat' (first | refine zV ?_ | intro _)
  exact qE (L' := []) (hle := h01) ⟨rfl, h01, rfl⟩
end Go.Proofs.E
