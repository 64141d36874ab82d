/- Laws of analysis. Part 33 of 41. -/
import Derived.Test.YtkbiahafeoillaaGreatA32
namespace Go.Proofs.E
open Go
set_option linter.unusedVariables false
set_option linter.unusedSimpArgs false
set_option linter.unusedSectionVars false
set_option maxRecDepth 4000
set_option maxHeartbeats 1000000
attribute [local irreducible] Yl TL TC TE Spec Xb R1 Hp.le EnvLe TS TR YS Zk
theorem be_take_succ (n x j : Nat) (h : j < n) : (be n x).take (j + 1) = (be n x).take j ++ [UInt8.ofNat (x / 256 ^ (n - 1 - j))] := by
 induction n generalizing j with
 | zero => omega
 | succ n ih =>
  rw [be]
  cases j with
  | zero => simp
  | succ j =>
   rw [List.take_succ_cons, List.take_succ_cons, ih j (by omega)]
   simp only [List.cons_append]
   rw [show n - 1 - j = n + 1 - 1 - (j + 1) by omega]
theorem Wg (ρ : Hp) (z : Int) (n : Nat) (h0 : 0 ≤ z) (hz : z < 18446744073709551616) (hn : n ≤ 8) :
  Spec Tryz.prog 223 [.int .u64 z, .int .i64 n] ρ [] (fun v ρ' L' => ρ.le ρ' ∧ ∃ a c, v = .slice a n c ∧ n ≤ c ∧ SIn ρ' ZR a n (be n z.toNat) ∧ L' = []) := by
 obtain ⟨x, rfl⟩ : ∃ x : Nat, z = x := ⟨z.toNat, by omega⟩
 simp only [Int.toNat_natCast]
 refine Zd Tryz.func223 rfl rfl rfl fun u R => ?_
 simp only [Zo, List.cons_append, List.nil_append]
 repeat' (first | refine zV ?_ | intro _)
 rw [show ((n : Int) - 1) = (n : Int) - 1 - ((0 : Nat) : Int) by omega]
 refine Zq [(0, _), (4, _)] (fun (ζ : (Nat) × (Value) × (List Value)) => [(6, .int .i64 ((n : Int) - 1 - (ζ.1 : Int))), (5, ζ.2.1)]) (fun (ζ : (Nat) × (Value) × (List Value)) => ρ) (fun (ζ : (Nat) × (Value) × (List Value)) => [ZG ζ.2.1 (((be n x).take ζ.1).map ZR) ζ.2.2 5]) (fun (ζ : (Nat) × (Value) × (List Value)) => ζ.1 ≤ n ∧ OwnS ζ.2.1 ζ.1 (((be n x).take ζ.1).map ZR) ζ.2.2 1) (fun (ζ : (Nat) × (Value) × (List Value)) => n - ζ.1) ((0, .slice none 0 0, [])) (⟨Nat.zero_le _, OwnS.nil 1⟩) Ze Ze rfl tk ?_
 rintro ⟨j, v, sp⟩ hI
 try simp only [List.cons_append, List.nil_append, List.append_assoc, List.append_eq] at hI ⊢
 try dsimp only at hI ⊢
 obtain ⟨hj, hown⟩ := hI
 by_cases hj8 : j < n
 ·have hsh := shr_byte x (n - 1 - j)
  have hts := be_take_succ n x j hj8
  have hxx : ((be n x).take j).map ZR ++ [ZR (UInt8.ofNat (x / 256 ^ (n - 1 - j)))] = ((be n x).take (j + 1)).map ZR := by rw [hts]; simp
  obtain ⟨va, vc, rfl, _⟩ := hown.slice
  repeat' (first | (refine iSr ?_; refine tl_y (y_shr (c := 8 * (n - 1 - j)) rfl rfl (by omega) (by simp only [IntKind.bits]; omega)) rfl rfl ?_) | (refine iCv ?_; refine tl_y (y_conv (k := .u8) rfl) rfl rfl ?_; rw [hsh]) | (refine Zl rfl rfl rfl rfl (by simp) rfl rfl (fun _ => ?_)) | (refine ZZ (ys := [ZR (UInt8.ofNat (x / 256 ^ (n - 1 - j)))]) (m := 1) rfl rfl hown (hR := by infer_instance) SrcV.lit rfl rfl (by decide) rfl (by omega) (by omega) rfl (fun v2 sp2 hown2 => ?_); rw [hxx] at hown2 ⊢) | refine zV ?_ | intro _)
  have e7 : ((n : Int) - 1 - (j : Int) - 1) = (n : Int) - 1 - ((j + 1 : Nat) : Int) := by omega
  rw [e7]
  refine Zg (j + 1, v2, sp2) (⟨hj8, hown2⟩) Ze Ze rfl tk inferInstance (by first | omega | (dsimp only; omega))
 ·obtain rfl : j = n := by omega
  rw [show (be j x).take j = be j x from List.take_of_length_le (by rw [Zm]; exact Nat.le_refl _)] at hown ⊢
  obtain ⟨va, vc, rfl, _⟩ := hown.slice
  repeat' (first | refine zV ?_ | intro _)
  refine ZY (ZG (.slice va j vc) ((be j x).map ZR) sp 5) (fun ρ3 hle3 hfz => ?_)
  obtain ⟨a3, c3, e3, hc3, hs3⟩ := hown.sIn hfz
  cases e3
  exact qE ⟨hle3, va, vc, rfl, hc3, hs3, rfl⟩
section
variable {x : Cx} {Q : Exit → Act → World → Prop} {E : Env} {ρ : Hp} {L L1 : SH} {ops : Array Oper} {rest : List Oper} {ty : TypeId} {pos : String} {af : Array Edge}
theorem Yn {d t e m cx : Nat} {s y : Operand} {v : Value} {X Y : List UInt8} {sp : List Value} {a : Option Addr} [hS : ZV x.P t e] [hZ : ZJ x.P e 1] [hB : Zr x.P e 1] [hz : Zt x.P e (.int .u8 0)]
  (hs : ev E s = some v) (hy : ev E y = some (.slice a m cx)) (hown : OwnS v X.length (X.map ZR) sp 1) (hsr : SIn ρ ZR a m Y) (hb : X.length + Y.length ≤ 100000) (hd : Nat.blt d x.N = true)
  (k : ∀ va vc sp', OwnS (.slice va (X ++ Y).length vc) (X ++ Y).length ((X ++ Y).map ZR) sp' 1 → TL x ops rest Q ((d, .slice va (X ++ Y).length vc) :: E) ρ (ZG (.slice va (X ++ Y).length vc) ((X ++ Y).map ZR) sp' e :: L1)) (hR : Rem (ZG v (X.map ZR) sp e) L L1 := by infer_instance) :
  TL x ops (⟨some d, .call { callee := .builtin .append, args := #[s, y], argTypes := #[t, t] }, ty, pos, af, none⟩ :: rest) Q E ρ L := by
 have hl := hsr.len
 refine ZZ (ys := Y.map ZR) (sz := 1) (by' := 1) hs hy hown (hR := hR) (SIn.srcV hsr) (by simpa using hl) (u8c_one _) (by decide) rfl (by omega) (by omega) hd (fun v' sp' h' => ?_)
 rw [← List.map_append] at h' ⊢
 rw [show X.length + m = (X ++ Y).length by rw [List.length_append, hl]] at h'
 obtain ⟨va, vc, rfl, _⟩ := h'.slice
 exact k va vc sp' h'
theorem Xy {d t e cx : Nat} {s y : Operand} {v : Value} {X : List UInt8} {b : UInt8} {sp : List Value} {a : Option Addr} [hS : ZV x.P t e] [hZ : ZJ x.P e 1] [hB : Zr x.P e 1] [hz : Zt x.P e (.int .u8 0)]
  (hs : ev E s = some v) (hy : ev E y = some (.slice a 1 cx)) (hown : OwnS v X.length (X.map ZR) sp 1) (hsr : SrcV x ρ L1 a [ZR b]) (hb : X.length + 1 ≤ 100000) (hd : Nat.blt d x.N = true)
  (k : ∀ va vc sp', OwnS (.slice va (X ++ [b]).length vc) (X ++ [b]).length ((X ++ [b]).map ZR) sp' 1 → TL x ops rest Q ((d, .slice va (X ++ [b]).length vc) :: E) ρ (ZG (.slice va (X ++ [b]).length vc) ((X ++ [b]).map ZR) sp' e :: L1)) (hR : Rem (ZG v (X.map ZR) sp e) L L1 := by infer_instance) :
  TL x ops (⟨some d, .call { callee := .builtin .append, args := #[s, y], argTypes := #[t, t] }, ty, pos, af, none⟩ :: rest) Q E ρ L := by
 refine ZZ (ys := [ZR b]) (sz := 1) (by' := 1) (m := 1) hs hy hown (hR := hR) hsr rfl rfl (by decide) rfl (by omega) (by omega) hd (fun v' sp' h' => ?_)
 rw [show X.map ZR ++ [ZR b] = (X ++ [b]).map ZR by simp] at h' ⊢
 rw [show X.length + 1 = (X ++ [b]).length by simp] at h'
 obtain ⟨va, vc, rfl, _⟩ := h'.slice
 exact k va vc sp' h'
end
theorem stepped_spec (ρ : Hp) (s : Stp) (hs : YM s = true) (hf : RowFit s.row) :
  Spec Tryz.prog 225 [.agg ⟨stpV s⟩] ρ [] (fun v ρ' L' => ρ.le ρ' ∧ ∃ a c, v = .slice a (XB s).length c ∧ (XB s).length ≤ c ∧ SIn ρ' ZR a (XB s).length (XB s) ∧ L' = []) := by
 obtain ⟨hk4, hr23, hkt⟩ := step_kinds hs
 have hid := hf.id
 have hkB := tB_eq (t := s.kind) (by omega) (by omega)
 refine Zd Tryz.func225 rfl rfl rfl fun u R => ?_
 simp only [Zo, List.cons_append, List.nil_append]
 by_cases h23 : s.kind = 2 ∨ s.kind = 3
 ·have hst : XB s = [tB s.kind] ++ Yf s.row := by unfold XB; rw [if_pos h23]; rfl
  have hrr := fun ρ => rowR6_spec ρ s.row (hr23 h23) hid
  have hrl := rowB_le (hr23 h23)
  rcases h23 with e | e
  all_goals (repeat' (first | (refine Zl rfl rfl rfl rfl (by simp) rfl rfl (fun bs => ?_); simp only [hkB]) | refine zV ?_ | intro _))
  all_goals rename_i b1
  all_goals rw [show ([(bs, Obj.cells ⟨[ZR (tB s.kind)]⟩ 5 (0, 0))] : List (Nat × Obj)) = ZG (.slice (some ⟨bs, 0, none⟩) 1 1) ([tB s.kind].map ZR) [] 5 from rfl]
  all_goals have hown : Wo (.slice (some ⟨bs, 0, none⟩) 1 1) [tB s.kind] [] := ⟨.inr ⟨bs, 1, rfl, rfl, rfl, Nat.le_refl _⟩⟩
  all_goals generalize Value.slice (some ⟨bs, 0, none⟩) 1 1 = w0 at *
  all_goals obtain ⟨X0, hX0⟩ : ∃ X0, [tB s.kind] = X0 := ⟨_, rfl⟩
  all_goals have hX0l : X0.length = 1 := by rw [← hX0]; rfl
  all_goals rw [hX0] at hown ⊢
  all_goals obtain ⟨va, vc, rfl, _⟩ := hown.slice
  all_goals (repeat' (first | (refine Zc (.func 229) ?_; refine qC rfl rfl (hrr _) ?_; rintro v2 ρ2 L2 hle0 ⟨hle2, sp2, hown2, rfl⟩; simp only [List.cons_append, List.nil_append]; refine Yb _ (h := Rem.here) (fun ρ3 hle3 hfz => ?_); obtain ⟨a3, c3, rfl, hc3, hs3⟩ := hown2.sIn hfz; clear hfz) | (refine Yn (Y := Yf s.row) rfl rfl hown (by first | exact hs3 | exact SIn.mono hs3 (by assumption)) (by (try simp [Zm]) <;> omega) rfl (fun va vc sp' hown => ?_)) | refine zV ?_ | intro _))
  all_goals rw [hst, hX0]
  all_goals (refine ZY (YY (.slice va (X0 ++ Yf s.row).length vc) (X0 ++ Yf s.row) sp') (h := by repeat (first | exact ZD | apply ZA)) (fun ρ6 hle6 hfz => ?_))
  all_goals obtain ⟨a6, c6, e6, hc6, hs6⟩ := hown.sIn hfz
  all_goals cases e6
  all_goals exact qE (L' := []) ⟨Hp.le_trans hle2 (Hp.le_trans hle3 hle6), va, vc, rfl, hc6, hs6, rfl⟩
 ·have hkt := hkt h23
  have htB := tB_eq (t := s.row.t) (by omega) (by omega)
  have hst : XB s = [tB s.kind] ++ [tB s.row.t] ++ be 2 s.row.id ++ (if s.kind = 1 then be 8 (vN s.by') else []) := by unfold XB; rw [if_neg h23]; simp
  have hvl := vN_lt s.by'
  repeat' (first | (refine Zl rfl rfl rfl rfl (by simp) rfl rfl (fun bs => ?_); simp only [hkB]) | refine zV ?_ | intro _)
  rename_i b1
  rw [show ([(bs, Obj.cells ⟨[ZR (tB s.kind)]⟩ 5 (0, 0))] : List (Nat × Obj)) = ZG (.slice (some ⟨bs, 0, none⟩) 1 1) ([tB s.kind].map ZR) [] 5 from rfl]
  have hown : Wo (.slice (some ⟨bs, 0, none⟩) 1 1) [tB s.kind] [] := ⟨.inr ⟨bs, 1, rfl, rfl, rfl, Nat.le_refl _⟩⟩
  generalize Value.slice (some ⟨bs, 0, none⟩) 1 1 = w0 at *
  obtain ⟨X0, hX0⟩ : ∃ X0, [tB s.kind] = X0 := ⟨_, rfl⟩
  have hX0l : X0.length = 1 := by rw [← hX0]; rfl
  rw [hX0] at hown ⊢
  obtain ⟨va, vc, rfl, _⟩ := hown.slice
  repeat' (first | refine zV ?_ | intro _)
  refine tc_cut_k R [] (fun (ζ : (Hp) × (Value) × (List Value)) => [(1, .pointer (some ⟨b1, 0, none⟩)), (2, .slice none 0 0), (3, ζ.2.1)]) (fun (ζ : (Hp) × (Value) × (List Value)) => ζ.1) (fun (ζ : (Hp) × (Value) × (List Value)) => [YY ζ.2.1 (X0 ++ [tB s.row.t] ++ be 2 s.row.id) ζ.2.2, [(b1, .cells ⟨stpV s⟩ 60 (0, 0))]]) (fun (ζ : (Hp) × (Value) × (List Value)) => ρ.le ζ.1 ∧ Wo ζ.2.1 (X0 ++ [tB s.row.t] ++ be 2 s.row.id) ζ.2.2) Ze ?_ ?_
  ·refine Zu (Zk _ _ ([[(b1, .cells ⟨stpV s⟩ 60 (0, 0))]])) (Zw (hT := tk) (Hp.le_refl _)) ?_
   all_goals (refine Zx 0 ?_; refine ZN 1 ?_; refine ZN 2 ?_; refine ZN 3 ?_; refine ZQ 4 ?_; refine rCv 5 ?_; refine ZN 8 ?_; refine ZN 9 ?_; refine ZN 10 ?_; refine ZQ 11 ?_; refine rCv 12 ?_)
   all_goals (refine Zj (i := 6) ?_; ((try refine Zh ?_); (first | (refine Zl rfl rfl rfl rfl (by simp) rfl rfl (fun bs => ?_); simp only [htB]) | (refine ZF ?_; try intro _)) <;> ((try simp only [kM, kN, kO]); refine Zf ?_; refine Zi ?_)))
   all_goals (refine Zj (i := 7) ?_; ((try refine Zh ?_); (first | (refine Xy (b := tB s.row.t) rfl rfl hown SrcV.lit (by (try simp [Zm]) <;> omega) rfl (fun va vc sp' hown => ?_)) | (refine Yn (Y := be 2 s.row.id) rfl rfl hown (by first | exact hs2 | exact SIn.mono hs2 (by assumption)) (by (try simp [Zm]) <;> omega) rfl (fun va vc sp' hown => ?_)) | (refine ZF ?_; try intro _)) <;> ((try simp only [kM, kN, kO]); refine Zf ?_; refine Zi ?_)))
   all_goals (refine Zj (i := 13) ?_; ((try refine Zh ?_); (first | (refine Zc (.func 223) ?_; refine qC rfl rfl (Wg _ (s.row.id : Int) 2 (by omega) (by omega) (by decide)) ?_; rintro v ρ' L' hle ⟨hl2, a2, c2, rfl, hc2, hs2, rfl⟩ <;> (try simp only [kM, kN, kO]); (simp only [Int.toNat_natCast] at hs2)) | (refine ZF ?_; try intro _)) <;> ((try simp only [kM, kN, kO]); refine Zf ?_; refine Zi ?_)))
   all_goals (refine Zj (i := 14) ?_; ((try refine Zh ?_); (first | (refine Xy (b := tB s.row.t) rfl rfl hown SrcV.lit (by (try simp [Zm]) <;> omega) rfl (fun va vc sp' hown => ?_)) | (refine Yn (Y := be 2 s.row.id) rfl rfl hown (by first | exact hs2 | exact SIn.mono hs2 (by assumption)) (by (try simp [Zm]) <;> omega) rfl (fun va vc sp' hown => ?_)) | (refine ZF ?_; try intro _)) <;> ((try simp only [kM, kN, kO]); refine Zf ?_; refine Zi ?_)))
   all_goals (refine Zz ?_; refine rAs 15 ?_; refine Zv ?_)
   all_goals refine te_cut_g ((_, _, _)) (⟨hl2, hown⟩) Ze Ze rfl tk inferInstance
  ·rintro ⟨ρ1, w, sp⟩ ⟨hle1, hown⟩
   simp only [List.cons_append, List.nil_append] at hle1 ⊢
   dsimp only at hown
   obtain ⟨va, vc, rfl, _⟩ := hown.slice
   by_cases h1 : s.kind = 1
   ·rw [if_pos h1] at hst
    repeat' (first | (simp only [vN_eq]; refine Zc (.func 223) ?_; refine qC rfl rfl (Wg _ (vN s.by' : Int) 8 (by omega) (by omega) (by decide)) ?_; rintro v3 ρ3 L3 hle0 ⟨hl3, a3, c3, rfl, hc3, hs3, rfl⟩; simp only [Int.toNat_natCast] at hs3; simp only [List.cons_append, List.nil_append]) | (refine Yn (Y := be 8 (vN s.by')) rfl rfl hown (by first | exact hs3 | exact SIn.mono hs3 (by assumption)) (by (try simp [Zm]) <;> omega) rfl (fun va vc sp' hown => ?_)) | refine zV ?_ | intro _)
    rw [hst, hX0]
    refine ZY (YY (.slice va (X0 ++ [tB s.row.t] ++ be 2 s.row.id ++ be 8 (vN s.by')).length vc) (X0 ++ [tB s.row.t] ++ be 2 s.row.id ++ be 8 (vN s.by')) sp') (h := by repeat (first | exact ZD | apply ZA)) (fun ρ6 hle6 hfz => ?_)
    obtain ⟨a6, c6, e6, hc6, hs6⟩ := hown.sIn hfz
    cases e6
    exact qE (L' := []) ⟨Hp.le_trans hle1 (Hp.le_trans hl3 hle6), va, vc, rfl, hc6, hs6, rfl⟩
   ·rw [if_neg h1, List.append_nil] at hst
    repeat' (first | refine zV ?_ | intro _)
    rw [hst, hX0]
    refine ZY (YY (.slice va (X0 ++ [tB s.row.t] ++ be 2 s.row.id).length vc) (X0 ++ [tB s.row.t] ++ be 2 s.row.id) sp) (h := by repeat (first | exact ZD | apply ZA)) (fun ρ6 hle6 hfz => ?_)
    obtain ⟨a6, c6, e6, hc6, hs6⟩ := hown.sIn hfz
    cases e6
    exact qE (L' := []) ⟨Hp.le_trans hle1 hle6, va, vc, rfl, hc6, hs6, rfl⟩
end Go.Proofs.E
