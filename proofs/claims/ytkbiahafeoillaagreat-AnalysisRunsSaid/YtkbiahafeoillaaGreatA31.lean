/- Laws of analysis. Part 31 of 41. -/
import Derived.Test.YtkbiahafeoillaaGreatA30
namespace Go.Proofs.E
open Go
set_option linter.unusedVariables false
set_option linter.unusedSimpArgs false
set_option linter.unusedSectionVars false
set_option maxRecDepth 4000
set_option maxHeartbeats 1000000
attribute [local irreducible] Yl TL TC TE Spec Xb R1 Hp.le EnvLe TS TR YS Zk
theorem filter_succ {α : Type} (q : α → Bool) (l : List α) {k : Nat} (hk : k < l.length) : (l.take (k + 1)).filter q = (l.take k).filter q ++ (if q l[k] then [l[k]] else []) := by
 rw [List.take_succ_eq_append_getElem hk, List.filter_append]
 congr 1
 cases h : q l[k] <;> simp [h]
theorem back18_spec (ρ : Hp) (x : Tx) (hin : Tx.In ρ x) (to : Nat) (hb1 : x.sv.n ≤ 1099511627776) (hb2 : x.mv.n ≤ 1099511627776) : Spec Tryz.prog 185 [.agg ⟨Yk x⟩, .int .u64 to] ρ []
  (fun z ρ' L' => ρ.le ρ' ∧ ∃ y : Tx, z = .agg ⟨Yk y⟩ ∧ Tx.In ρ' y ∧ y.p = backT x.p to ∧ L' = []) := by
 have hS := hin.s
 have hM := hin.m
 have hSl := hS.len
 have hMl := hM.len
 refine Zd Tryz.func185 rfl rfl rfl fun u R => ?_
 simp only [Zo, List.cons_append, List.nil_append]
 repeat' (first | refine zV ?_ | intro _)
 rename_i b1 b2 b3
 refine Zq [(1, _), (2, _), (4, _), (5, _), (21, _), (22, _)] (fun (ζ : (Nat) × (Value) × (List Value) × (List Lf)) => [(23, .int .i64 ζ.1)]) (fun (ζ : (Nat) × (Value) × (List Value) × (List Lf)) => ρ) (fun (ζ : (Nat) × (Value) × (List Value) × (List Lf)) => [ZG ζ.2.1 ((ζ.2.2.2.map lfV).flatten) ζ.2.2.1 108, [(b3, .cells ⟨[.int .i64 x.num, .int .i64 x.state, .int .u64 x.first, .int .u64 x.last, .int .u64 to, ζ.2.1, .slice none 0 0]⟩ 45 (0, 0))]]) (fun (ζ : (Nat) × (Value) × (List Value) × (List Lf)) => ζ.1 ≤ x.sv.n ∧ ζ.2.2.2.length ≤ ζ.1 ∧ OwnS ζ.2.1 ζ.2.2.2.length ((ζ.2.2.2.map lfV).flatten) ζ.2.2.1 2 ∧ ζ.2.2.2 = (x.stack.take ζ.1).filter (fun s => decide (s.lsn ≤ to))) (fun (ζ : (Nat) × (Value) × (List Value) × (List Lf)) => x.sv.n - ζ.1) ((0, .slice none 0 0, [], [])) (⟨Nat.zero_le _, Nat.zero_le _, OwnS.nil 2, by simp⟩) Ze Ze rfl tk ?_
 rintro ⟨k, vv, sp, acc⟩ hI
 try simp only [List.cons_append, List.nil_append, List.append_assoc, List.append_eq] at hI ⊢
 try dsimp only at hI ⊢
 obtain ⟨hk, hal, hown, hac⟩ := hI
 obtain ⟨va, vc, rfl, _⟩ := hown.slice
 by_cases hlt : k < x.sv.n
 ·obtain ⟨b, off, C, T, fr, e1, hb, hfit, hc⟩ := hS.get (show k < x.stack.length by omega)
  have hx2 := filter_succ (fun s : Lf => decide (s.lsn ≤ to)) x.stack (show k < x.stack.length by omega)
  generalize x.stack[k]'(by omega) = s at *
  rw [e1]
  by_cases hs : s.lsn ≤ to
  ·rw [if_pos (decide_eq_true hs), ← hac] at hx2
   repeat' (first | (refine ZH (css := [lfV s]) (sz := 2) rfl rfl rfl rfl (by simp) (by simp) rfl (fun bs => ?_); simp only [List.flatten_cons, List.flatten_nil, List.append_nil]) | (refine ZZ (ys := lfV s) (m := 1) rfl rfl hown (hR := by repeat (first | exact ZD | apply ZA)) SrcV.lit rfl rfl (by decide) rfl (by omega) (by omega) rfl (fun v3 sp3 hown3 => ?_); obtain ⟨va3, vc3, rfl, _⟩ := hown3.slice) | refine zV ?_ | intro _)
   have hm : (acc.map lfV).flatten ++ lfV s = ((acc ++ [s]).map lfV).flatten := by simp
   rw [hm] at hown3 ⊢
   rw [← e1]
   refine Zg (k + 1, .slice va3 (acc.length + 1) vc3, sp3, acc ++ [s]) (⟨hlt, by rw [List.length_append]; exact Nat.succ_le_succ hal, by rw [List.length_append]; exact hown3, hx2.symm⟩) Ze Ze rfl tk inferInstance (by first | omega | (dsimp only; omega))
  ·rw [if_neg (show ¬ decide (s.lsn ≤ to) = true by simp; omega), ← hac, List.append_nil] at hx2
   repeat' (first | refine zV ?_ | intro _)
   rw [← e1]
   refine Zg (k + 1, .slice va acc.length vc, sp, acc) (⟨hlt, Nat.le_succ_of_le hal, hown, hx2.symm⟩) Ze Ze rfl tk inferInstance (by first | omega | (dsimp only; omega))
 ·rw [List.take_of_length_le (by omega)] at hac
  repeat' (first | refine zV ?_ | intro _)
  refine Zq [(1, _), (4, _), (5, _), (39, _), (40, _)] (fun (ζ : (Nat) × (Value) × (List Value) × (List Nat)) => [(41, .int .i64 ζ.1)]) (fun (ζ : (Nat) × (Value) × (List Value) × (List Nat)) => ρ) (fun (ζ : (Nat) × (Value) × (List Value) × (List Nat)) => [ZG ζ.2.1 (ζ.2.2.2.map Yr) ζ.2.2.1 28, [(b3, .cells ⟨[.int .i64 x.num, .int .i64 x.state, .int .u64 x.first, .int .u64 x.last, .int .u64 to, .slice va acc.length vc, ζ.2.1]⟩ 45 (0, 0))]]) (fun (ζ : (Nat) × (Value) × (List Value) × (List Nat)) => ζ.1 ≤ x.mv.n ∧ ζ.2.2.2.length ≤ ζ.1 ∧ OwnS ζ.2.1 ζ.2.2.2.length (ζ.2.2.2.map Yr) ζ.2.2.1 1 ∧ ζ.2.2.2 = (x.marks.take ζ.1).filter (fun m => decide (m ≤ to))) (fun (ζ : (Nat) × (Value) × (List Value) × (List Nat)) => x.mv.n - ζ.1) ((0, .slice none 0 0, [], [])) (⟨Nat.zero_le _, Nat.zero_le _, OwnS.nil 1, by simp⟩) Ze Ze rfl tk ?_
  rintro ⟨j, ww, sq, bcc⟩ hI
  try simp only [List.cons_append, List.nil_append, List.append_assoc, List.append_eq] at hI ⊢
  try dsimp only at hI ⊢
  obtain ⟨hj, hbl, hown2, hbc⟩ := hI
  obtain ⟨wa, wc, rfl, _⟩ := hown2.slice
  by_cases hlt2 : j < x.mv.n
  ·obtain ⟨b, off, C, T, fr, e1, hb, hc⟩ := hM.get (show j < x.marks.length by omega)
   have hx2 := filter_succ (fun m : Nat => decide (m ≤ to)) x.marks (show j < x.marks.length by omega)
   generalize x.marks[j]'(by omega) = s at *
   rw [e1]
   by_cases hs : s ≤ to
   ·rw [if_pos (decide_eq_true hs), ← hbc] at hx2
    repeat' (first | (refine ZH (css := [[Yr s]]) (sz := 1) rfl rfl rfl rfl (by simp) (by simp) rfl (fun bs => ?_); simp only [List.flatten_cons, List.flatten_nil, List.append_nil]) | (refine ZZ (ys := [Yr s]) (m := 1) rfl rfl hown2 (hR := by repeat (first | exact ZD | apply ZA)) SrcV.lit rfl rfl (by decide) rfl (by omega) (by omega) rfl (fun v3 sp3 hown3 => ?_); obtain ⟨va3, vc3, rfl, _⟩ := hown3.slice) | refine zV ?_ | intro _)
    have hm : bcc.map Yr ++ [Yr s] = (bcc ++ [s]).map Yr := by simp
    rw [hm] at hown3 ⊢
    rw [← e1]
    refine Zg (j + 1, .slice va3 (bcc.length + 1) vc3, sp3, bcc ++ [s]) (⟨hlt2, by rw [List.length_append]; exact Nat.succ_le_succ hbl, by rw [List.length_append]; exact hown3, hx2.symm⟩) Ze Ze rfl tk inferInstance (by first | omega | (dsimp only; omega))
   ·rw [if_neg (show ¬ decide (s ≤ to) = true by simp; omega), ← hbc, List.append_nil] at hx2
    repeat' (first | refine zV ?_ | intro _)
    rw [← e1]
    refine Zg (j + 1, .slice wa bcc.length wc, sq, bcc) (⟨hlt2, Nat.le_succ_of_le hbl, hown2, hx2.symm⟩) Ze Ze rfl tk inferInstance (by first | omega | (dsimp only; omega))
  ·rw [List.take_of_length_le (by omega)] at hbc
   repeat' (first | refine zV ?_ | intro _)
   refine ZY (ZG (.slice va acc.length vc) ((acc.map lfV).flatten) sp 108) (h := by repeat (first | exact ZD | apply ZA)) (fun ρ4 hle4 hf4 => ?_)
   refine ZY (ZG (.slice wa bcc.length wc) (bcc.map Yr) sq 28) (h := by repeat (first | exact ZD | apply ZA)) (fun ρ5 hle5 hf5 => ?_)
   have hx' : Tx.In ρ5 ⟨x.num, x.state, x.first, x.last, to, acc, bcc, ⟨va, acc.length, vc⟩, ⟨wa, bcc.length, wc⟩⟩ := OwnX.tin ⟨hown, hown2⟩ (fun p hp => Hp.up hle5 (hf4 p hp)) (fun p hp => hf5 p hp) (by dsimp only; omega) (by dsimp only; omega)
   exact qE (L' := []) (hle := Hp.le_trans hle4 hle5) ⟨Hp.le_trans hle4 hle5, _, rfl, hx', by rw [hac, hbc]; rfl, rfl⟩
end Go.Proofs.E
