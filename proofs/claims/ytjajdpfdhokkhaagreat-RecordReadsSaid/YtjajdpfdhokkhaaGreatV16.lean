/- The law RecordReads. Part 16 of 21. -/
import Derived.Test.YtjajdpfdhokkhaaGreatV15
namespace Go.Proofs.E
open Go
set_option linter.unusedVariables false
set_option linter.unusedSimpArgs false
set_option linter.unusedSectionVars false
set_option maxRecDepth 4000
set_option maxHeartbeats 1000000
attribute [local irreducible] Yl TL TC TE Spec XW R1 Hp.le EnvLe TS TR YS Zv
theorem Zm (ρ : Hp) (rb : Nat) (s : SV) (l : List UInt8) (h : RdI ρ s l) (k B : Nat) (hB : 256 ^ k = B) (h8 : k ≤ 8) {x : Nat} {l1 : List UInt8} (hk : ZN k (l, 0, false) = (x, l1, 0, false)) : Spec Tryz.prog 90 [.pointer (some ⟨rb, 0, none⟩), .int .i64 k] ρ [rdB rb s false]
  (fun z ρ' L' => z = .int .u64 (x : Nat) ∧ ρ' = ρ ∧ x < B ∧ ∃ s2, RdI ρ' s2 l1 ∧ L' = [rdB rb s2 false]) := by
 refine (Xz ρ rb s l h k B hB h8).mono ?_
 rintro z ρ' L' _ ⟨y, q1, q2, q3, ⟨s2, l2, q4, q5, q6⟩ | ⟨_, q4, _⟩⟩
 ·rw [hk] at q4
  have e1 := (Prod.mk.inj q4).1
  have e2 := (Prod.mk.inj (Prod.mk.inj q4).2).1
  subst e1; subst e2
  exact ⟨q1, q2, q3, s2, q5, q6⟩
 ·rw [hk] at q4; cases q4
theorem ZV (ρ : Hp) (rb : Nat) (s : SV) (l : List UInt8) (h : RdI ρ s l) (k : Nat) (h8 : k ≤ 8) (hk : okS (ZN k (l, 0, false)).2 = false) : Spec Tryz.prog 90 [.pointer (some ⟨rb, 0, none⟩), .int .i64 k] ρ [rdB rb s false]
  (fun z ρ' L' => z = .int .u64 0 ∧ ρ' = ρ ∧ L' = [rdB rb s true]) := by
 have hl := h.at'.len
 by_cases hn : s.n < k
 ·exact num_no ρ rb s k hn
 ·rw [rdN_go (by omega)] at hk; cases hk
theorem stpIn {ρ : Hp} {k lsn prev next : Nat} {txn : Int} {sv : SV} {xs : List Stp} (h : AS ρ 6 XT sv xs) (hi : ∀ x ∈ xs, YC x.row) : RcIn ρ ⟨⟨none, 0, 0⟩, sv, ⟨none, 0, 0⟩, ⟨none, 0, 0⟩⟩ ⟨k, lsn, txn, prev, next, [], xs, 0, [], []⟩ := ⟨AS.nil, by simp, h, AS.nil, AS.nil, hi⟩
theorem read_4g (ρ : Hp) (a : Option Addr) (n c : Nat) (l : List UInt8) (h : SIn ρ ZM a n l) (hc : n ≤ c) (hb : n ≤ 1000000) (k : Nat) (l1 : List UInt8) (hl1 : ZN 1 (l, 0, false) = (k, l1, 0, false)) (lsn : Nat) (l2 : List UInt8) (hl2 : ZN 8 (l1, 0, false) = (lsn, l2, 0, false)) (txn : Nat) (l3 : List UInt8) (hl3 : ZN 4 (l2, 0, false) = (txn, l3, 0, false)) (prev : Nat) (l4 : List UInt8) (hl4 : ZN 8 (l3, 0, false) = (prev, l4, 0, false)) (next : Nat) (l5 : List UInt8) (hl5 : ZN 8 (l4, 0, false) = (next, l5, 0, false)) (m : Nat) (l6 : List UInt8) (hl6 : ZN 1 (l5, 0, false) = (m, l6, 0, false)) (hk4 : k = 4) : Spec Tryz.prog 23 [.slice a n c] ρ [] (fun z ρ' L' => ρ.le ρ' ∧ YU ρ' l z L') := by
 have hI0 : RdI ρ ⟨a, n, c⟩ l := ⟨h, hc, hb⟩
 have hln := h.len
 have hmd : decD l = ((⟨k, lsn, txn, prev, next, [], (Yc XU m (l6, 0, false)).1, 0, [], []⟩ : Rc), (Yc XU m (l6, 0, false)).2) := by
  rw [Xu hl1 hl2 hl3 hl4]
  unfold XM
  rw [if_neg (show ¬ ((k : Nat) : Int) = 2 by omega), if_neg (show ¬ ((k : Nat) : Int) = 3 by omega), if_pos (show ((k : Nat) : Int) = 4 by omega)]
  unfold XR neD
  rw [hl5]
  unfold doD YD
  rw [hl6]
 refine Zf Tryz.func23 rfl rfl rfl fun u R => ?_
 simp only [Zx, List.cons_append, List.nil_append]
 repeat' (first | (refine Zc (.func 90) ?_; refine qC rfl rfl (Zm _ _ ⟨a, n, c⟩ l hI0 1 256 rfl (by decide) hl1) ?_; rintro v ρ' L' hle ⟨rfl, rfl, hb1, s1, h1, rfl⟩ <;> (try simp only [kM, kN, kO])) | (refine Zc (.func 90) ?_; refine qC rfl rfl (Zm _ _ s1 l1 h1 8 18446744073709551616 rfl (by decide) hl2) ?_; rintro v ρ' L' hle ⟨rfl, rfl, hb2, s2, h2, rfl⟩ <;> (try simp only [kM, kN, kO])) | (refine Zc (.func 90) ?_; refine qC rfl rfl (Zm _ _ s2 l2 h2 4 4294967296 rfl (by decide) hl3) ?_; rintro v ρ' L' hle ⟨rfl, rfl, hb3, s3, h3, rfl⟩ <;> (try simp only [kM, kN, kO])) | (refine Zc (.func 90) ?_; refine qC rfl rfl (Zm _ _ s3 l3 h3 8 18446744073709551616 rfl (by decide) hl4) ?_; rintro v ρ' L' hle ⟨rfl, rfl, hb4, s4, h4, rfl⟩ <;> (try simp only [kM, kN, kO])) | (refine Zc (.func 90) ?_; refine qC rfl rfl (Zm _ _ s4 l4 h4 8 18446744073709551616 rfl (by decide) hl5) ?_; rintro v ρ' L' hle ⟨rfl, rfl, hb5, s5, h5, rfl⟩ <;> (try simp only [kM, kN, kO])) | (refine Zc (.func 90) ?_; refine qC rfl rfl (Zm _ _ s5 l5 h5 1 256 rfl (by decide) hl6) ?_; rintro v ρ' L' hle ⟨rfl, rfl, hb6, s6, h6, rfl⟩ <;> (try simp only [kM, kN, kO])) | (refine ZG ?_; refine Zn (Ze rfl) rfl rfl ?_) | (refine Zj ?_; first | (refine Zg ?_; refine qQ ?_) | refine Zl ?_) | refine Za ?_ | (refine Zi ?_; refine Zq ?_) | (refine Zh ?_; refine Zp ?_) | intro _)
 rename_i zb rb rc _ _ _ _ _
 refine Zy [(2, _), (3, _), (4, _), (5, _), (42, _), (56, _)] (fun (ζ : (Nat) × (SV) × (List UInt8) × (Value) × (List Value) × (List Stp) × (Bool)) => [(57, .int .u64 ζ.1)]) (fun (ζ : (Nat) × (SV) × (List UInt8) × (Value) × (List Value) × (List Stp) × (Bool)) => ρ') (fun (ζ : (Nat) × (SV) × (List UInt8) × (Value) × (List Value) × (List Stp) × (Bool)) => [rdB rb ζ.2.1 ζ.2.2.2.2.2.2, [(rc, .cells ⟨[.int .i64 (k : Nat), .int .u64 (lsn : Nat), .int .i64 (txn : Nat), .int .u64 (prev : Nat), .int .u64 (next : Nat), .slice none 0 0, ζ.2.2.2.1, .int .i64 0, .slice none 0 0, .slice none 0 0]⟩ 30 (0, 0))], Yu ζ.2.2.2.1 ((ζ.2.2.2.2.2.1.map XT).flatten) ζ.2.2.2.2.1 103]) (fun (ζ : (Nat) × (SV) × (List UInt8) × (Value) × (List Value) × (List Stp) × (Bool)) => ζ.1 ≤ m ∧ ζ.2.2.2.2.2.1.length = ζ.1 ∧ OwnS ζ.2.2.2.1 ζ.2.2.2.2.2.1.length ((ζ.2.2.2.2.2.1.map XT).flatten) ζ.2.2.2.2.1 6 ∧ (∀ x ∈ ζ.2.2.2.2.2.1, YC x.row) ∧ ((ζ.2.2.2.2.2.2 = false ∧ RdI ρ' ζ.2.1 ζ.2.2.1 ∧ Yc XU m (l6, 0, false) = (ζ.2.2.2.2.2.1 ++ (Yc XU (m - ζ.1) (ζ.2.2.1, 0, false)).1, (Yc XU (m - ζ.1) (ζ.2.2.1, 0, false)).2)) ∨ (ζ.2.2.2.2.2.2 = true ∧ okS (Yc XU m (l6, 0, false)).2 = false))) (fun (ζ : (Nat) × (SV) × (List UInt8) × (Value) × (List Value) × (List Stp) × (Bool)) => m - ζ.1) ((0, s6, l6, .slice none 0 0, [], [], false)) (⟨Nat.zero_le _, rfl, OwnS.nil 6, by simp, .inl ⟨rfl, h6, rfl⟩⟩) Zk Zk rfl tk ?_
 rintro ⟨j, q1, m1, vv, sp, acc, b1⟩ hI
 try simp only [List.cons_append, List.nil_append, List.append_assoc, List.append_eq] at hI ⊢
 try dsimp only at hI ⊢
 obtain ⟨hj, hal, hown, hin, hor⟩ := hI
 obtain ⟨va, vc, rfl, hvl⟩ := hown.slice
 rcases hor with ⟨rfl, hq1, hms⟩ | ⟨rfl, hbad⟩
 case' inr =>
  have hdb : Yq l = false := Xl (by rw [hmd]; exact hbad)
  by_cases hlt : j < m
  all_goals
   repeat' (first | (refine ZG ?_; refine Zn (Ze rfl) rfl rfl ?_) | (refine Zj ?_; first | (refine Zg ?_; refine qQ ?_) | refine Zl ?_) | refine Za ?_ | (refine Zi ?_; refine Zq ?_) | (refine Zh ?_; refine Zp ?_) | intro _)
   exact qE (L' := []) ⟨Hp.le_refl _, Yb hdb⟩
 by_cases hlt : j < m
 ·repeat' (first | (refine ZG ?_; refine Zn (Ze rfl) rfl rfl ?_) | (refine Zj ?_; first | (refine Zg ?_; refine qQ ?_) | refine Zl ?_) | refine Za ?_ | (refine Zi ?_; refine Zq ?_) | (refine Zh ?_; refine Zp ?_) | intro _)
  refine tc_phase 6 (Zv _ _ ([[(rc, .cells ⟨[.int .i64 (k : Nat), .int .u64 (lsn : Nat), .int .i64 (txn : Nat), .int .u64 (prev : Nat), .int .u64 (next : Nat), .slice none 0 0, .slice va acc.length vc, .int .i64 0, .slice none 0 0, .slice none 0 0]⟩ 30 (0, 0))]])) (by decide +kernel) (ZU (hT := tk) (Hp.le_refl _)) ?_
  simp only [List.take_succ_cons, List.take_zero]
  all_goals (refine rFa 0 ?_; refine Yr 1 ?_; refine Ye 2 ?_)
  all_goals (refine Zt (i := 3) ?_; ((try refine Zr ?_); (first | (refine Zc (.func 92) ?_; refine qC rfl rfl (stepD_spec _ rb q1 m1 hq1) ?_; rintro v ρ' L' hle ⟨rfl, y, rfl, hyf, ⟨q2, m2, hst, hq2, rfl⟩ | ⟨hno, q2, rfl⟩⟩ <;> (try simp only [kM, kN, kO])) | (refine Zl ?_; try intro _)) <;> ((try simp only [kM, kN, kO]); refine Za ?_; refine Zs ?_)))
  all_goals (refine Zt (i := 4) ?_; ((try refine Zr ?_); (first | (refine ZE (css := [[.int .i64 y.kind, .int .i64 y.row.t, .int .u16 y.row.id, .int .i64 y.row.val, strV y.row.note, .int .i64 y.by']]) (sz := 6) rfl rfl rfl rfl (by simp) (by simp) rfl (fun bs => ?_); simp only [List.flatten_cons, List.flatten_nil, List.append_nil]) | (refine Zl ?_; try intro _)) <;> ((try simp only [kM, kN, kO]); refine Za ?_; refine Zs ?_)))
  all_goals (refine Zt (i := 5) ?_; ((try refine Zr ?_); (first | (refine ZE (css := [[.int .i64 y.kind, .int .i64 y.row.t, .int .u16 y.row.id, .int .i64 y.row.val, strV y.row.note, .int .i64 y.by']]) (sz := 6) rfl rfl rfl rfl (by simp) (by simp) rfl (fun bs => ?_); simp only [List.flatten_cons, List.flatten_nil, List.append_nil]) | (refine Yt (ys := [.int .i64 y.kind, .int .i64 y.row.t, .int .u16 y.row.id, .int .i64 y.row.val, strV y.row.note, .int .i64 y.by']) (m := 1) rfl rfl hown (hR := by repeat (first | exact Ya | apply ZS)) SrcV.lit rfl rfl (by decide) rfl (by omega) (by omega) rfl (fun v3 sp3 hown3 => ?_); obtain ⟨va3, vc3, rfl, _⟩ := hown3.slice) | (refine Zl ?_; try intro _)) <;> ((try simp only [kM, kN, kO]); refine Za ?_; refine Zs ?_)))
  all_goals refine ZP ?_
  all_goals refine te_phase (fuel := 2) (m := [true, true, true, true, true, true, false, false]) (Zv _ _ ([])) rfl rfl (ZU (hT := tk) (Hp.le_refl _)) ?_
  all_goals refine rFa 6 ?_
  all_goals (refine Zt (i := 7) ?_; ((try refine Zr ?_); (first | (refine Zl ?_; try intro _)) <;> ((try simp only [kM, kN, kO]); refine Za ?_; refine Zs ?_)))
  all_goals refine ZP ?_
  all_goals (repeat' (first | (refine ZG ?_; refine Zn (Ze rfl) rfl rfl ?_) | (refine Zj ?_; first | (refine Zg ?_; refine qQ ?_) | refine Zl ?_) | refine Za ?_ | (refine Zi ?_; refine Zq ?_) | (refine Zh ?_; refine Zp ?_) | intro _))
  all_goals
   have hyv : [.int .i64 y.kind, .int .i64 y.row.t, .int .u16 y.row.id, .int .i64 y.row.val, strV y.row.note, .int .i64 y.by'] = XT y := rfl
   have hm1 : (acc.map XT).flatten ++ XT y = ((acc ++ [y]).map XT).flatten := by simp
   have hf2 : ∀ x ∈ acc ++ [y], YC x.row := fun x hx => (List.mem_append.1 hx).elim (hin x) (fun hx => by rw [List.mem_singleton.1 hx]; exact hyf)
   rw [hyv, hm1] at hown3 ⊢
  ·refine Zo (j + 1, q2, m2, .slice va3 (acc.length + 1) vc3, sp3, acc ++ [y], false) (⟨hlt, by rw [List.length_append, hal]; rfl, by rw [List.length_append]; exact hown3, hf2, .inl ⟨rfl, hq2, many_app hlt hms hst⟩⟩) Zk Zk rfl tk inferInstance (by first | omega | (dsimp only; omega))
  ·refine Zo (j + 1, q2, m1, .slice va3 (acc.length + 1) vc3, sp3, acc ++ [y], true) (⟨hlt, by rw [List.length_append, hal]; rfl, by rw [List.length_append]; exact hown3, hf2, .inr ⟨rfl, XA hlt hms hno⟩⟩) Zk Zk rfl tk inferInstance (by first | omega | (dsimp only; omega))
 ·have hjm : j = m := by omega
  rw [hjm, Nat.sub_self] at hms
  simp only [Yc, List.append_nil] at hms
  refine tc_freeze (Yu (.slice va acc.length vc) ((acc.map XT).flatten) sp 103) (fun ρ3 hle3 hfz => ?_)
  obtain ⟨sa, sc, f1, hsc, hA2⟩ := hown.aIn rfl (fun x _ => stpV_len x) hfz
  cases f1
  clear hfz
  have hq3 := hq1.mono hle3
  repeat' (first | (refine ZG ?_; refine Zn (Ze rfl) rfl rfl ?_) | (refine Zj ?_; first | (refine Zg ?_; refine qQ ?_) | refine Zl ?_) | refine Za ?_ | (refine Zi ?_; refine Zq ?_) | (refine Zh ?_; refine Zp ?_) | intro _)
  have hAS : AS ρ3 6 XT ⟨va, acc.length, vc⟩ acc := ⟨hA2, by dsimp only; omega, hsc⟩
  have hr : RcIn ρ3 ⟨⟨none, 0, 0⟩, ⟨va, acc.length, vc⟩, ⟨none, 0, 0⟩, ⟨none, 0, 0⟩⟩ (⟨k, lsn, txn, prev, next, [], acc, 0, [], []⟩ : Rc) := stpIn hAS hin
  have hlr := hq3.at'.len
  have hR := Wa ρ3 ⟨⟨none, 0, 0⟩, ⟨va, acc.length, vc⟩, ⟨none, 0, 0⟩, ⟨none, 0, 0⟩⟩ (⟨k, lsn, txn, prev, next, [], acc, 0, [], []⟩ : Rc) hr
  have hd : decD l = ((⟨k, lsn, txn, prev, next, [], acc, 0, [], []⟩ : Rc).plain, m1, 0, false) := by rw [hmd, hms]; rfl
  by_cases hz : 0 < q1.n
  ·rw [decide_eq_true (show (q1.n : Int) > 0 by omega)]
   repeat' (first | (refine ZG ?_; refine Zn (Ze rfl) rfl rfl ?_) | (refine Zj ?_; first | (refine Zg ?_; refine qQ ?_) | refine Zl ?_) | refine Za ?_ | (refine Zi ?_; refine Zq ?_) | (refine Zh ?_; refine Zp ?_) | intro _)
   exact qE (L' := []) (hle := hle3) ⟨hle3, Yb (read_rest hd (fun e => by rw [e] at hlr; simp at hlr; omega))⟩
  ·rw [decide_eq_false (show ¬ (q1.n : Int) > 0 by omega)]
   obtain rfl : m1 = [] := List.eq_nil_of_length_eq_zero (by omega)
   cases hok : YM (⟨k, lsn, txn, prev, next, [], acc, 0, [], []⟩ : Rc)
   ·rw [hok] at hR
    repeat' (first | (refine Zc (.func 26) ?_; refine qC rfl rfl (hR) ?_; rintro v ρ' L' hle ⟨rfl, rfl, rfl⟩ <;> (try simp only [kM, kN, kO])) | (refine ZG ?_; refine Zn (Ze rfl) rfl rfl ?_) | (refine Zj ?_; first | (refine Zg ?_; refine qQ ?_) | refine Zl ?_) | refine Za ?_ | (refine Zi ?_; refine Zq ?_) | (refine Zh ?_; refine Zp ?_) | intro _)
    exact qE (L' := []) (hle := hle3) ⟨hle3, Yb (read_right hd hok)⟩
   ·rw [hok] at hR
    repeat' (first | (refine Zc (.func 26) ?_; refine qC rfl rfl (hR) ?_; rintro v ρ' L' hle ⟨rfl, rfl, rfl⟩ <;> (try simp only [kM, kN, kO])) | (refine ZG ?_; refine Zn (Ze rfl) rfl rfl ?_) | (refine Zj ?_; first | (refine Zg ?_; refine qQ ?_) | refine Zl ?_) | refine Za ?_ | (refine Zi ?_; refine Zq ?_) | (refine Zh ?_; refine Zp ?_) | intro _)
    exact qE (L' := []) (hle := hle3) ⟨hle3, (read_yes hr hd hok).2⟩
end Go.Proofs.E
