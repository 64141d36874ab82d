/- The law RosterDoes. Part 17 of 20. -/
import Derived.Test.YtjajdpfdhokkhaaGreatY16
namespace Go.Proofs.E
open Go
set_option linter.unusedVariables false
set_option linter.unusedSimpArgs false
set_option linter.unusedSectionVars false
set_option maxRecDepth 4000
set_option maxHeartbeats 1000000
attribute [local irreducible] Yl TL TC TE Spec Wq R1 Hp.le EnvLe TS TR YS Zs
def whereX (nb mb : Nat) (n : Int) (t : TxP) : SH := [XI nb n, u64C mb (if XF n t = 0 then whereN n t else 0)]
theorem mark_cell {x : Tx} {ss ms : List Value} (hX : OwnX x ss ms) {n : Int} (h1 : 1 ≤ n) (h2 : n ≤ (x.marks.length : Int)) : ∃ mb c, x.mv = ⟨some ⟨mb, 0, none⟩, x.marks.length, c⟩ ∧ Wv x ms = [(mb, .cells ⟨x.marks.map ZU ++ ms⟩ 24 (0, 0))] ∧ (x.marks.map ZU ++ ms)[0 + (n - 1).toNat * 1]? = some (ZU (x.marks.getD (n - 1).toNat 0)) := by
 obtain ⟨mb, c, e, _, _, _⟩ := hX.m.blk (show 0 < x.marks.length by omega)
 obtain ⟨num, st, fi, la, un, sk, mk, sv, ⟨ma, mn, mc⟩⟩ := x
 dsimp only at *
 have f := Value.slice.inj e
 obtain ⟨rfl, rfl, rfl⟩ := f
 refine ⟨mb, _, rfl, rfl, ?_⟩
 rw [List.getElem?_append_left (by simp; omega)]
 have hlt : (n - 1).toNat < mk.length := by omega
 rw [Nat.zero_add, Nat.mul_one, List.getElem?_map, List.getElem?_eq_getElem hlt, YW hlt]
 rfl
theorem where1_spec (ρ : Hp) (nb mb0 : Nat) (n : Int) (hnb : i64in n) (b o : Nat) (P : List Value) (x : Tx) (S ss ms : List Value) (hP : P.length = o) (hX : OwnX x ss ms) (hx : TxG x.p) :
  Spec Tryz.prog 135 [.pointer (some ⟨b, o, none⟩), .pointer (some ⟨nb, 0, none⟩), .pointer (some ⟨mb0, 0, none⟩)] ρ (Xt b P x S :: WE x ss :: Wv x ms :: [XI nb n, u64C mb0 0]) (AskR (XF n) id (whereX nb mb0 n) b P x S ρ) := by
 have hg6 : (P ++ txQ x S)[o + 6]? = some (.slice x.mv.a x.mv.n x.mv.c) := Wp hP rfl
 have hml : x.marks.length ≤ 8 := hx.ml
 have hnn := hX.m.nn.1
 unfold AskR whereX
 have hwF : XF n x.p = if n < 1 ∨ (x.marks.length : Int) < n then 4 else 0 := rfl
 have hwN : whereN n x.p = x.marks.getD (n - 1).toNat 0 := rfl
 rw [hwF, hwN]
 refine Zg Tryz.func135 rfl rfl rfl fun u R => ?_
 simp only [Zx, List.cons_append, List.nil_append]
 by_cases h1 : n < 1
 ·simp only [if_pos (show n < 1 ∨ (x.marks.length : Int) < n from .inl h1), show ¬ ((4 : Int) = 0) by decide, if_false]
  repeat' (first | (refine ZE ?_; refine Zo (Zd rfl) rfl rfl ?_) | (refine Zj ?_; first | (refine Zf ?_; refine qQ ?_) | refine Zn ?_) | refine Zb ?_ | (refine Zi ?_; refine Zv ?_) | (refine Zh ?_; refine Zu ?_) | intro _)
  refine ZD (Zs _ _ ([Xt b P x S, XI nb n])) (Zz (hT := tk) (Hp.le_refl _)) ?_
  all_goals (refine ZX 0 ?_; refine ZO ?_; refine rCm 1 ?_; refine ZT 2 ?_; (first | refine Zc 3 ?_ | refine Za 3 ?_ | refine Yb 3 ?_); (first | refine Zc 4 ?_ | refine Za 4 ?_ | refine ZP 4 ?_); (first | refine Zc 5 ?_ | refine Za 5 ?_ | refine wNc 5 ?_); (first | refine Zc 6 ?_ | refine Za 6 ?_ | refine ZW 6 ?_); (first | refine Zc 7 ?_ | refine Za 7 ?_ | refine Yb 7 ?_); (first | refine Zc 8 ?_ | refine Za 8 ?_ | refine wBi 8 ?_); (first | refine Zc 9 ?_ | refine Za 9 ?_ | refine Yw 9 ?_); refine YA 10 ?_; refine ZI ?_)
  all_goals (repeat' (first | (refine ZE ?_; refine Zo (Zd rfl) rfl rfl ?_) | (refine Zj ?_; first | (refine Zf ?_; refine qQ ?_) | refine Zn ?_) | refine Zb ?_ | (refine Zi ?_; refine Zv ?_) | (refine Zh ?_; refine Zu ?_) | intro _))
  all_goals exact qE (L' := [] ++ [XI nb n, u64C mb0 0]) ⟨rfl, rfl, .inl ⟨by decide, [], rfl⟩⟩
 ·by_cases h2 : (x.marks.length : Int) < n
  ·simp only [if_pos (show n < 1 ∨ (x.marks.length : Int) < n from .inr h2), show ¬ ((4 : Int) = 0) by decide, if_false]
   repeat' (first | (refine ZE ?_; refine Zo (Zd rfl) rfl rfl ?_) | (refine Zj ?_; first | (refine Zf ?_; refine qQ ?_) | refine Zn ?_) | refine Zb ?_ | (refine Zi ?_; refine Zv ?_) | (refine Zh ?_; refine Zu ?_) | intro _)
   refine ZD (Zs _ _ ([Xt b P x S, XI nb n])) (Zz (hT := tk) (Hp.le_refl _)) ?_
   all_goals (refine ZX 0 ?_; refine ZO ?_; refine rCm 1 ?_; refine ZT 2 ?_; (first | refine Zc 3 ?_ | refine Za 3 ?_ | refine Yb 3 ?_); (first | refine Zc 4 ?_ | refine Za 4 ?_ | refine ZP 4 ?_); (first | refine Zc 5 ?_ | refine Za 5 ?_ | refine wNc 5 ?_); (first | refine Zc 6 ?_ | refine Za 6 ?_ | refine ZW 6 ?_); (first | refine Zc 7 ?_ | refine Za 7 ?_ | refine Yb 7 ?_); (first | refine Zc 8 ?_ | refine Za 8 ?_ | refine wBi 8 ?_); (first | refine Zc 9 ?_ | refine Za 9 ?_ | refine Yw 9 ?_); refine YA 10 ?_; refine ZI ?_)
   all_goals (repeat' (first | (refine ZE ?_; refine Zo (Zd rfl) rfl rfl ?_) | (refine Zj ?_; first | (refine Zf ?_; refine qQ ?_) | refine Zn ?_) | refine Zb ?_ | (refine Zi ?_; refine Zv ?_) | (refine Zh ?_; refine Zu ?_) | intro _))
   all_goals exact qE (L' := [] ++ [XI nb n, u64C mb0 0]) ⟨rfl, rfl, .inl ⟨by decide, [], rfl⟩⟩
  ·simp only [if_neg (show ¬ (n < 1 ∨ (x.marks.length : Int) < n) by omega), if_true]
   obtain ⟨mb, c, emv, em, hcell⟩ := mark_cell hX (show 1 ≤ n by omega) (show n ≤ (x.marks.length : Int) by omega)
   rw [emv] at hg6 hnn
   dsimp only at hg6 hnn
   have hQ : txQ x S = .int .i64 x.num :: .int .i64 x.state :: .int .u64 x.first :: .int .u64 x.last :: .int .u64 x.undo :: .slice x.sv.a x.sv.n x.sv.c :: .slice (some ⟨mb, 0, none⟩) x.marks.length c :: S := by rw [← show (⟨some ⟨mb, 0, none⟩, x.marks.length, c⟩ : SV).a = some ⟨mb, 0, none⟩ from rfl]; simp [txQ, emv]
   repeat' (first | (refine ZE ?_; refine Zo (Zd rfl) rfl rfl ?_) | (refine Zj ?_; first | (refine Zf ?_; refine qQ ?_) | refine Zn ?_) | refine Zb ?_ | (refine Zi ?_; refine Zv ?_) | (refine Zh ?_; refine Zu ?_) | intro _)
   refine ZD (Zs _ _ ([Xt b P x S, XI nb n])) (Zz (hT := tk) (Hp.le_refl _)) ?_
   all_goals (refine ZX 0 ?_; refine ZO ?_; refine rCm 1 ?_; refine ZT 2 ?_; (first | refine Zc 3 ?_ | refine Za 3 ?_ | refine Yb 3 ?_); (first | refine Zc 4 ?_ | refine Za 4 ?_ | refine ZP 4 ?_); (first | refine Zc 5 ?_ | refine Za 5 ?_ | refine wNc 5 ?_); (first | refine Zc 6 ?_ | refine Za 6 ?_ | refine ZW 6 ?_); (first | refine Zc 7 ?_ | refine Za 7 ?_ | refine Yb 7 ?_); (first | refine Zc 8 ?_ | refine Za 8 ?_ | refine wBi 8 ?_); (first | refine Zc 9 ?_ | refine Za 9 ?_ | refine Yw 9 ?_); refine YA 10 ?_; refine ZI ?_)
   all_goals (repeat' (first | (refine ZE ?_; refine Zo (Zd rfl) rfl rfl ?_) | (refine Zj ?_; first | (refine Zf ?_; refine qQ ?_) | refine Zn ?_) | refine Zb ?_ | (refine Zi ?_; refine Zv ?_) | (refine Zh ?_; refine Zu ?_) | intro _))
   all_goals rw [em]
   all_goals refine ZD (Zs _ _ ([Xt b P x S, XI nb n, [(mb, .cells ⟨x.marks.map ZU ++ ms⟩ 24 (0, 0))]])) (Zz (hT := tk) (Hp.le_refl _)) ?_
   all_goals (refine ZT 0 ?_; refine rNc 1 ?_; refine ZS 2 ?_; refine ZX 3 ?_; refine ZX 4 ?_; refine rSb 5 ?_; refine rIa 6 ?_; refine ZX 7 ?_)
   all_goals (refine Zp (i := 8) ?_; ((try refine Zk ?_); (first | (refine Zn ?_; try intro _)) <;> ((try simp only [kM, kN, kO]); refine Zb ?_; refine Zl ?_)))
   all_goals refine ZI ?_
   all_goals (repeat' (first | (refine ZE ?_; refine Zo (Zd rfl) rfl rfl ?_) | (refine Zj ?_; first | (refine Zf ?_; refine qQ ?_) | refine Zn ?_) | refine Zb ?_ | (refine Zi ?_; refine Zv ?_) | (refine Zh ?_; refine Zu ?_) | intro _))
   all_goals rw [← em]
   all_goals exact qE (L' := Xt b P x S :: WE x ss :: Wv x ms :: [XI nb n, u64C mb0 (x.marks.getD (n - 1).toNat 0)]) ⟨rfl, rfl, .inr ⟨by trivial, x, ss, ms, rfl, hX, rfl⟩⟩
theorem cut1_spec (ρ : Hp) (nb : Nat) (n : Int) (hnb : i64in n) (b o : Nat) (P : List Value) (x : Tx) (S ss ms : List Value) (hP : P.length = o) (hX : OwnX x ss ms) (hx : TxG x.p) :
  Spec Tryz.prog 138 [.pointer (some ⟨b, o, none⟩), .pointer (some ⟨nb, 0, none⟩)] ρ (Xt b P x S :: WE x ss :: Wv x ms :: [XI nb n]) (AskR (cutF n) (cutG n) (fun _ => [XI nb n]) b P x S ρ) := by
 have hg4 : (P ++ txQ x S)[o + 4]? = some (.int .u64 x.undo) := Wp hP rfl
 have hg6 : (P ++ txQ x S)[o + 6]? = some (.slice x.mv.a x.mv.n x.mv.c) := Wp hP rfl
 have hml : x.marks.length ≤ 8 := hx.ml
 have hnn := hX.m.nn.1
 unfold AskR
 have hwF : cutF n x.p = if n < 1 ∨ (x.marks.length : Int) < n then 4 else if x.marks.getD (n - 1).toNat 0 ≠ x.undo then 2 else 0 := rfl
 rw [hwF]
 refine Zg Tryz.func138 rfl rfl rfl fun u R => ?_
 simp only [Zx, List.cons_append, List.nil_append]
 by_cases h1 : n < 1
 ·simp only [if_pos (show n < 1 ∨ (x.marks.length : Int) < n from .inl h1)]
  repeat' (first | (refine ZE ?_; refine Zo (Zd rfl) rfl rfl ?_) | (refine Zj ?_; first | (refine Zf ?_; refine qQ ?_) | refine Zn ?_) | refine Zb ?_ | (refine Zi ?_; refine Zv ?_) | (refine Zh ?_; refine Zu ?_) | intro _)
  refine ZD (Zs _ _ ([Xt b P x S, XI nb n])) (Zz (hT := tk) (Hp.le_refl _)) ?_
  all_goals (refine ZX 0 ?_; refine ZO ?_; refine rCm 1 ?_; refine ZT 2 ?_; (first | refine Zc 3 ?_ | refine Za 3 ?_ | refine Yb 3 ?_); (first | refine Zc 4 ?_ | refine Za 4 ?_ | refine ZP 4 ?_); (first | refine Zc 5 ?_ | refine Za 5 ?_ | refine wNc 5 ?_); (first | refine Zc 6 ?_ | refine Za 6 ?_ | refine ZW 6 ?_); (first | refine Zc 7 ?_ | refine Za 7 ?_ | refine Yb 7 ?_); (first | refine Zc 8 ?_ | refine Za 8 ?_ | refine wBi 8 ?_); (first | refine Zc 9 ?_ | refine Za 9 ?_ | refine Yw 9 ?_); refine YA 10 ?_; refine ZI ?_)
  all_goals (repeat' (first | (refine ZE ?_; refine Zo (Zd rfl) rfl rfl ?_) | (refine Zj ?_; first | (refine Zf ?_; refine qQ ?_) | refine Zn ?_) | refine Zb ?_ | (refine Zi ?_; refine Zv ?_) | (refine Zh ?_; refine Zu ?_) | intro _))
  all_goals exact qE (L' := [] ++ [XI nb n]) ⟨rfl, rfl, .inl ⟨by decide, [], rfl⟩⟩
 ·by_cases h2 : (x.marks.length : Int) < n
  ·simp only [if_pos (show n < 1 ∨ (x.marks.length : Int) < n from .inr h2)]
   repeat' (first | (refine ZE ?_; refine Zo (Zd rfl) rfl rfl ?_) | (refine Zj ?_; first | (refine Zf ?_; refine qQ ?_) | refine Zn ?_) | refine Zb ?_ | (refine Zi ?_; refine Zv ?_) | (refine Zh ?_; refine Zu ?_) | intro _)
   refine ZD (Zs _ _ ([Xt b P x S, XI nb n])) (Zz (hT := tk) (Hp.le_refl _)) ?_
   all_goals (refine ZX 0 ?_; refine ZO ?_; refine rCm 1 ?_; refine ZT 2 ?_; (first | refine Zc 3 ?_ | refine Za 3 ?_ | refine Yb 3 ?_); (first | refine Zc 4 ?_ | refine Za 4 ?_ | refine ZP 4 ?_); (first | refine Zc 5 ?_ | refine Za 5 ?_ | refine wNc 5 ?_); (first | refine Zc 6 ?_ | refine Za 6 ?_ | refine ZW 6 ?_); (first | refine Zc 7 ?_ | refine Za 7 ?_ | refine Yb 7 ?_); (first | refine Zc 8 ?_ | refine Za 8 ?_ | refine wBi 8 ?_); (first | refine Zc 9 ?_ | refine Za 9 ?_ | refine Yw 9 ?_); refine YA 10 ?_; refine ZI ?_)
   all_goals (repeat' (first | (refine ZE ?_; refine Zo (Zd rfl) rfl rfl ?_) | (refine Zj ?_; first | (refine Zf ?_; refine qQ ?_) | refine Zn ?_) | refine Zb ?_ | (refine Zi ?_; refine Zv ?_) | (refine Zh ?_; refine Zu ?_) | intro _))
   all_goals exact qE (L' := [] ++ [XI nb n]) ⟨rfl, rfl, .inl ⟨by decide, [], rfl⟩⟩
  ·simp only [if_neg (show ¬ (n < 1 ∨ (x.marks.length : Int) < n) by omega)]
   obtain ⟨mb, c, emv, em, hcell⟩ := mark_cell hX (show 1 ≤ n by omega) (show n ≤ (x.marks.length : Int) by omega)
   rw [emv] at hg6 hnn
   dsimp only at hg6 hnn
   have hmc : x.marks.length ≤ c := by have := hX.m.nn.2; rw [emv] at this; exact this
   by_cases h3 : x.marks.getD (n - 1).toNat 0 = x.undo
   ·simp only [if_neg (show ¬ (x.marks.getD (n - 1).toNat 0 ≠ x.undo) from fun e => e h3)]
    rw [h3] at hcell
    have hsl : (x.marks.take n.toNat).length = n.toNat := by rw [List.length_take]; omega
    have hown : OwnS (.slice (some ⟨mb, 0, none⟩) n.toNat c) (x.marks.take n.toNat).length ((x.marks.take n.toNat).map ZU) ((x.marks.drop n.toNat).map ZU ++ ms) 1 := by
     rcases hX.m.out with ⟨_, q, _, _⟩ | ⟨b2, c2, q0, q1, q2, q3⟩
     ·omega
     ·rw [emv] at q0
      cases q0
      simp only [List.length_map] at q1 q2
      exact ⟨.inr ⟨mb, c, by rw [hsl], by simp, by simp only [List.length_append, List.length_map, List.length_take, List.length_drop]; omega, by omega⟩⟩
    have hcl : ZK (.slice (some ⟨mb, 0, none⟩) n.toNat c) ((x.marks.take n.toNat).map ZU) ((x.marks.drop n.toNat).map ZU ++ ms) 24 = [(mb, .cells ⟨x.marks.map ZU ++ ms⟩ 24 (0, 0))] := by
     show [(mb, Obj.cells ⟨(x.marks.take n.toNat).map ZU ++ ((x.marks.drop n.toNat).map ZU ++ ms)⟩ 24 (0, 0))] = _
     rw [← List.append_assoc, ← List.map_append, List.take_append_drop]
    repeat' (first | (refine ZE ?_; refine Zo (Zd rfl) rfl rfl ?_) | (refine Zj ?_; first | (refine Zf ?_; refine qQ ?_) | refine Zn ?_) | refine Zb ?_ | (refine Zi ?_; refine Zv ?_) | (refine Zh ?_; refine Zu ?_) | intro _)
    refine ZD (Zs _ _ ([Xt b P x S, XI nb n])) (Zz (hT := tk) (Hp.le_refl _)) ?_
    all_goals (refine ZX 0 ?_; refine ZO ?_; refine rCm 1 ?_; refine ZT 2 ?_; (first | refine Zc 3 ?_ | refine Za 3 ?_ | refine Yb 3 ?_); (first | refine Zc 4 ?_ | refine Za 4 ?_ | refine ZP 4 ?_); (first | refine Zc 5 ?_ | refine Za 5 ?_ | refine wNc 5 ?_); (first | refine Zc 6 ?_ | refine Za 6 ?_ | refine ZW 6 ?_); (first | refine Zc 7 ?_ | refine Za 7 ?_ | refine Yb 7 ?_); (first | refine Zc 8 ?_ | refine Za 8 ?_ | refine wBi 8 ?_); (first | refine Zc 9 ?_ | refine Za 9 ?_ | refine Yw 9 ?_); refine YA 10 ?_; refine ZI ?_)
    all_goals (repeat' (first | (refine ZE ?_; refine Zo (Zd rfl) rfl rfl ?_) | (refine Zj ?_; first | (refine Zf ?_; refine qQ ?_) | refine Zn ?_) | refine Zb ?_ | (refine Zi ?_; refine Zv ?_) | (refine Zh ?_; refine Zu ?_) | intro _))
    all_goals rw [em]
    all_goals refine ZD (Zs _ _ ([Xt b P x S, XI nb n, [(mb, .cells ⟨x.marks.map ZU ++ ms⟩ 24 (0, 0))]])) (Zz (hT := tk) (Hp.le_refl _)) ?_
    all_goals (refine ZT 0 ?_; refine ZO ?_; refine rNc 1 ?_; refine ZS 2 ?_; refine ZX 3 ?_; refine ZX 4 ?_; refine rSb 5 ?_; refine rIa 6 ?_; refine ZX 7 ?_; refine ZT 8 ?_; refine rNc 9 ?_; refine ZS 10 ?_; refine ZX 11 ?_; refine rCm 12 ?_; refine ZI ?_)
    all_goals (repeat' (first | (refine ZE ?_; refine Zo (Zd rfl) rfl rfl ?_) | (refine Zj ?_; first | (refine Zf ?_; refine qQ ?_) | refine Zn ?_) | refine Zb ?_ | (refine Zi ?_; refine Zv ?_) | (refine Zh ?_; refine Zu ?_) | intro _))
    all_goals refine Wc 7 (Zs _ _ ([Xt b P x S, XI nb n])) (by decide +kernel) (Zz (hT := tk) (Hp.le_refl _)) ?_
    all_goals simp only [List.take_succ_cons, List.take_zero]
    all_goals (refine ZT 0 ?_; refine ZT 1 ?_; refine rNc 2 ?_; refine ZS 3 ?_; refine ZX 4 ?_; refine ZX 5 ?_; refine rSl 6 ?_; refine ZI ?_)
    all_goals refine Wb (fuel := 3) (m := [true, true, true, true, true, true, true, false, false, false]) (Zs _ _ ([])) rfl rfl (Zz (hT := tk) (Hp.le_refl _)) ?_
    all_goals (refine rNc 7 ?_; refine ZS 8 ?_)
    all_goals (refine Zp (i := 9) ?_; ((try refine Zk ?_); (first | (refine ZZ (o := o) (P := P) rfl rfl hP rfl ?_) | (refine Zn ?_; try intro _)) <;> ((try simp only [kM, kN, kO]); refine Zb ?_; refine Zl ?_)))
    all_goals refine ZI ?_
    all_goals (repeat' (first | (refine ZE ?_; refine Zo (Zd rfl) rfl rfl ?_) | (refine Zj ?_; first | (refine Zf ?_; refine qQ ?_) | refine Zn ?_) | refine Zb ?_ | (refine Zi ?_; refine Zv ?_) | (refine Zh ?_; refine Zu ?_) | intro _))
    all_goals rw [← hcl]
    all_goals exact qE (L' := Xt b P { x with marks := x.marks.take n.toNat, mv := ⟨some ⟨mb, 0, none⟩, n.toNat, c⟩ } S :: WE x ss :: Wv { x with marks := x.marks.take n.toNat, mv := ⟨some ⟨mb, 0, none⟩, n.toNat, c⟩ } ((x.marks.drop n.toNat).map ZU ++ ms) :: [XI nb n]) ⟨rfl, rfl, .inr ⟨by trivial, { x with marks := x.marks.take n.toNat, mv := ⟨some ⟨mb, 0, none⟩, n.toNat, c⟩ }, ss, (x.marks.drop n.toNat).map ZU ++ ms, rfl, ⟨hX.s, hown⟩, rfl⟩⟩
   ·simp only [if_pos (show x.marks.getD (n - 1).toNat 0 ≠ x.undo from h3)]
    generalize x.marks.getD (n - 1).toNat 0 = y at *
    repeat' (first | (refine ZE ?_; refine Zo (Zd rfl) rfl rfl ?_) | (refine Zj ?_; first | (refine Zf ?_; refine qQ ?_) | refine Zn ?_) | refine Zb ?_ | (refine Zi ?_; refine Zv ?_) | (refine Zh ?_; refine Zu ?_) | intro _)
    refine ZD (Zs _ _ ([Xt b P x S, XI nb n])) (Zz (hT := tk) (Hp.le_refl _)) ?_
    all_goals (refine ZX 0 ?_; refine ZO ?_; refine rCm 1 ?_; refine ZT 2 ?_; (first | refine Zc 3 ?_ | refine Za 3 ?_ | refine Yb 3 ?_); (first | refine Zc 4 ?_ | refine Za 4 ?_ | refine ZP 4 ?_); (first | refine Zc 5 ?_ | refine Za 5 ?_ | refine wNc 5 ?_); (first | refine Zc 6 ?_ | refine Za 6 ?_ | refine ZW 6 ?_); (first | refine Zc 7 ?_ | refine Za 7 ?_ | refine Yb 7 ?_); (first | refine Zc 8 ?_ | refine Za 8 ?_ | refine wBi 8 ?_); (first | refine Zc 9 ?_ | refine Za 9 ?_ | refine Yw 9 ?_); refine YA 10 ?_; refine ZI ?_)
    all_goals (repeat' (first | (refine ZE ?_; refine Zo (Zd rfl) rfl rfl ?_) | (refine Zj ?_; first | (refine Zf ?_; refine qQ ?_) | refine Zn ?_) | refine Zb ?_ | (refine Zi ?_; refine Zv ?_) | (refine Zh ?_; refine Zu ?_) | intro _))
    all_goals rw [em]
    all_goals refine ZD (Zs _ _ ([Xt b P x S, XI nb n, [(mb, .cells ⟨x.marks.map ZU ++ ms⟩ 24 (0, 0))]])) (Zz (hT := tk) (Hp.le_refl _)) ?_
    all_goals (refine ZT 0 ?_; refine ZO ?_; refine rNc 1 ?_; refine ZS 2 ?_; refine ZX 3 ?_; refine ZX 4 ?_; refine rSb 5 ?_; refine rIa 6 ?_; refine ZX 7 ?_; refine ZT 8 ?_; refine rNc 9 ?_; refine ZS 10 ?_; refine ZX 11 ?_; refine rCm 12 ?_; refine ZI ?_)
    all_goals (repeat' (first | (refine ZE ?_; refine Zo (Zd rfl) rfl rfl ?_) | (refine Zj ?_; first | (refine Zf ?_; refine qQ ?_) | refine Zn ?_) | refine Zb ?_ | (refine Zi ?_; refine Zv ?_) | (refine Zh ?_; refine Zu ?_) | intro _))
    all_goals exact qE (L' := [] ++ [XI nb n]) ⟨rfl, rfl, .inl ⟨by decide, [], rfl⟩⟩
def marksN (p : Yr) (num : Int) : Int := match Yf p num with | some t => ((t.marks.length + 1 : Nat) : Int) | none => 0
def whereV (p : Yr) (num n : Int) : Nat := match Yf p num with | some t => whereN n t | none => 0
theorem asksX_mark {nb : Nat} (p : Yr) (num : Int) : ∃ k : Int, asksX [XI nb 0] (markX nb) p num = [XI nb k] ∧ k = if XM XR p num = 0 then marksN p num else 0 := by
 unfold asksX XM askX WJ marksN markX XR
 cases XW p
 ·exact ⟨0, rfl, rfl⟩
 ·simp only [if_true]
  cases Yf p num with
  | none => exact ⟨0, rfl, rfl⟩
  | some t =>
   dsimp only
   by_cases h : t.state = 1
   ·simp only [if_pos h]
    by_cases h8 : 8 ≤ t.marks.length
    ·simp only [if_pos h8]; exact ⟨_, rfl, rfl⟩
    ·simp only [if_neg h8]; exact ⟨_, rfl, rfl⟩
   ·simp only [if_neg h]; exact ⟨0, rfl, rfl⟩
theorem asksX_where {nb mb : Nat} {n : Int} (p : Yr) (num : Int) : ∃ k : Nat, asksX [XI nb n, u64C mb 0] (whereX nb mb n) p num = [XI nb n, u64C mb k] ∧ k = if XM (XF n) p num = 0 then whereV p num n else 0 := by
 unfold asksX XM askX WJ whereV whereX
 cases XW p
 ·exact ⟨0, rfl, rfl⟩
 ·simp only [if_true]
  cases Yf p num with
  | none => exact ⟨0, rfl, rfl⟩
  | some t =>
   dsimp only
   by_cases h : t.state = 1
   ·simp only [if_pos h]; exact ⟨_, rfl, rfl⟩
   ·simp only [if_neg h]; exact ⟨0, rfl, rfl⟩
theorem asksX_cut {nb : Nat} {n : Int} (p : Yr) (num : Int) : asksX [XI nb n] (fun _ => [XI nb n]) p num = [XI nb n] := by
 unfold asksX askX
 cases XW p
 ·rfl
 ·simp only [if_true]
  cases Yf p num with
  | none => rfl
  | some t => dsimp only; split <;> rfl
def markE (p : Yr) (num : Int) : Int := XM XR p num
def XX (p : Yr) (num : Int) : Yr := asksP XR markG p num
def markK (p : Yr) (num : Int) : Int := if markE p num = 0 then marksN p num else 0
theorem mark_spec (ρ : Hp) (v : SV) (ro : Ros) (h : RosIn ρ v ro) (num : Int) : Spec Tryz.prog 57 [.agg ⟨Yh v ro⟩, .int .i64 num] ρ []
  (fun z ρ' L' => ρ.le ρ' ∧ ((markE ro.p num ≠ 0 ∧ z = .tuple ⟨[.agg ⟨[.int .i64 0, .slice none 0 0]⟩, .int .i64 0, .int .i64 (markE ro.p num)]⟩ ∧ L' = []) ∨
   (markE ro.p num = 0 ∧ ∃ vv sp os, OwnR vv sp os (XX ro.p num).txns ∧ z = .tuple ⟨[.agg ⟨[.int .i64 (XX ro.p num).next, vv]⟩, .int .i64 (marksN ro.p num), .int .i64 0]⟩ ∧ L' = Xi vv sp os))) := by
 have ha := fun nb => asks_spec ρ v ro h num 137 [.pointer (some ⟨nb, 0, none⟩)] [XI nb 0] (markX nb) XR markG (fun _ => rfl) (fun ρ1 _ b o P x S ss ms hP hX hx _ => mark1_spec ρ1 nb b o P x S ss ms hP hX hx)
 refine Zg Tryz.func57 rfl rfl rfl fun u R => ?_
 simp only [Zx, List.cons_append, List.nil_append]
 have hx := fun nb => asksX_mark (nb := nb) ro.p num
 unfold markE XX
 generalize asksP XR markG ro.p num = pa at *
 generalize XM XR ro.p num = e at *
 repeat' (first | (refine ZE ?_; refine Zo (Zd rfl) rfl rfl ?_) | (refine Zj ?_; first | (refine Zf ?_; refine qQ ?_) | refine Zn ?_) | refine Zb ?_ | (refine Zi ?_; refine Zv ?_) | (refine Zh ?_; refine Zu ?_) | intro _)
 rename_i nb
 obtain ⟨k, hx1, hx2⟩ := hx nb
 have ha1 := ha nb
 rw [hx1] at ha1
 refine Ze (.func 134) ?_
 refine qC rfl rfl ha1 ?_
 rintro z ρ3 L3 hle3 ⟨hl1, ⟨he, rfl, rfl⟩ | ⟨he, vv, sp, os, hR, rfl, rfl⟩⟩ <;> simp only [List.cons_append, List.nil_append]
 ·rw [if_neg he] at hx2
  subst hx2
  repeat' (first | (refine ZE ?_; refine Zo (Zd rfl) rfl rfl ?_) | (refine Zj ?_; first | (refine Zf ?_; refine qQ ?_) | refine Zn ?_) | refine Zb ?_ | (refine Zi ?_; refine Zv ?_) | (refine Zh ?_; refine Zu ?_) | intro _)
  refine ZD (Zs _ _ _) ZF ?_
  all_goals (refine ZX 0 ?_; refine ZX 1 ?_; refine ZT 2 ?_)
  all_goals (refine Zp (i := 3) ?_; ((try refine Zk ?_); (first | (refine Zn ?_; try intro _)) <;> ((try simp only [kM, kN, kO]); refine Zb ?_; refine Zl ?_)))
  all_goals (refine ZO ?_; refine rAs 4 ?_; refine rAs 5 ?_; refine ZI ?_)
  all_goals (repeat' (first | (refine ZE ?_; refine Zo (Zd rfl) rfl rfl ?_) | (refine Zj ?_; first | (refine Zf ?_; refine qQ ?_) | refine Zn ?_) | refine Zb ?_ | (refine Zi ?_; refine Zv ?_) | (refine Zh ?_; refine Zu ?_) | intro _))
  all_goals exact qE (L' := []) ⟨hl1, .inl ⟨he, rfl, rfl⟩⟩
 ·subst he
  rw [if_pos rfl] at hx2
  subst hx2
  obtain ⟨va, vc, rfl, _⟩ := hR.own.slice
  repeat' (first | (refine ZE ?_; refine Zo (Zd rfl) rfl rfl ?_) | (refine Zj ?_; first | (refine Zf ?_; refine qQ ?_) | refine Zn ?_) | refine Zb ?_ | (refine Zi ?_; refine Zv ?_) | (refine Zh ?_; refine Zu ?_) | intro _)
  refine ZD (Zs _ _ ([[(_, .cells ⟨[.int .i64 pa.next, .slice va os.length vc]⟩ 34 (0, 0))], XI nb (marksN ro.p num)])) (Zz (hT := tk) (Hp.le_refl _)) ?_
  all_goals (refine ZX 0 ?_; refine ZX 1 ?_; refine ZT 2 ?_)
  all_goals (refine Zp (i := 3) ?_; ((try refine Zk ?_); (first | (refine Zn ?_; try intro _)) <;> ((try simp only [kM, kN, kO]); refine Zb ?_; refine Zl ?_)))
  all_goals (refine ZO ?_; refine rAs 4 ?_; refine rAs 5 ?_; refine ZI ?_)
  all_goals (repeat' (first | (refine ZE ?_; refine Zo (Zd rfl) rfl rfl ?_) | (refine Zj ?_; first | (refine Zf ?_; refine qQ ?_) | refine Zn ?_) | refine Zb ?_ | (refine Zi ?_; refine Zv ?_) | (refine Zh ?_; refine Zu ?_) | intro _))
  all_goals exact qE (L' := Xi _ sp os) ⟨hl1, .inr ⟨by trivial, _, sp, os, hR, rfl, rfl⟩⟩
def whereE (p : Yr) (num n : Int) : Int := XM (XF n) p num
theorem where_spec (ρ : Hp) (v : SV) (ro : Ros) (h : RosIn ρ v ro) (num n : Int) (hn : i64in n) : Spec Tryz.prog 55 [.agg ⟨Yh v ro⟩, .int .i64 num, .int .i64 n] ρ []
  (fun z ρ' L' => ρ.le ρ' ∧ z = .tuple ⟨[.int .u64 (if whereE ro.p num n = 0 then whereV ro.p num n else 0 : Nat), .int .i64 (whereE ro.p num n)]⟩ ∧ L' = []) := by
 have ha := fun nb mb => asks_spec ρ v ro h num 135 [.pointer (some ⟨nb, 0, none⟩), .pointer (some ⟨mb, 0, none⟩)] [XI nb n, u64C mb 0] (whereX nb mb n) (XF n) id (fun _ => rfl) (fun ρ1 _ b o P x S ss ms hP hX hx _ => where1_spec ρ1 nb mb n hn b o P x S ss ms hP hX hx)
 refine Zg Tryz.func55 rfl rfl rfl fun u R => ?_
 simp only [Zx, List.cons_append, List.nil_append]
 have hx := fun nb mb => asksX_where (nb := nb) (mb := mb) (n := n) ro.p num
 unfold whereE
 generalize asksP (XF n) id ro.p num = pa at *
 generalize XM (XF n) ro.p num = e at *
 generalize whereV ro.p num n = wv at *
 repeat' (first | (refine ZE ?_; refine Zo (Zd rfl) rfl rfl ?_) | (refine Zj ?_; first | (refine Zf ?_; refine qQ ?_) | refine Zn ?_) | refine Zb ?_ | (refine Zi ?_; refine Zv ?_) | (refine Zh ?_; refine Zu ?_) | intro _)
 rename_i nb mb
 obtain ⟨k, hx1, hx2⟩ := hx nb mb
 have ha1 := ha nb mb
 rw [hx1] at ha1
 refine Ze (.func 134) ?_
 refine qC rfl rfl ha1 ?_
 rintro z ρ3 L3 hle3 ⟨hl1, ⟨he, rfl, rfl⟩ | ⟨he, vv, sp, os, hR, rfl, rfl⟩⟩ <;> simp only [List.cons_append, List.nil_append]
 ·repeat' (first | (refine ZE ?_; refine Zo (Zd rfl) rfl rfl ?_) | (refine Zj ?_; first | (refine Zf ?_; refine qQ ?_) | refine Zn ?_) | refine Zb ?_ | (refine Zi ?_; refine Zv ?_) | (refine Zh ?_; refine Zu ?_) | intro _)
  rw [← hx2]
  exact qE (L' := []) ⟨hl1, rfl, rfl⟩
 ·subst he
  obtain ⟨va, vc, rfl, _⟩ := hR.own.slice
  repeat' (first | (refine ZE ?_; refine Zo (Zd rfl) rfl rfl ?_) | (refine Zj ?_; first | (refine Zf ?_; refine qQ ?_) | refine Zn ?_) | refine Zb ?_ | (refine Zi ?_; refine Zv ?_) | (refine Zh ?_; refine Zu ?_) | intro _)
  rw [← hx2]
  exact qE (L' := []) ⟨hl1, rfl, rfl⟩
def cutE (p : Yr) (num n : Int) : Int := XM (cutF n) p num
def cutP (p : Yr) (num n : Int) : Yr := asksP (cutF n) (cutG n) p num
theorem cutR_spec (ρ : Hp) (v : SV) (ro : Ros) (h : RosIn ρ v ro) (num n : Int) (hn : i64in n) : Spec Tryz.prog 58 [.agg ⟨Yh v ro⟩, .int .i64 num, .int .i64 n] ρ []
  (fun z ρ' L' => ρ.le ρ' ∧ ((cutE ro.p num n ≠ 0 ∧ z = .tuple ⟨[.agg ⟨[.int .i64 0, .slice none 0 0]⟩, .int .i64 (cutE ro.p num n)]⟩ ∧ L' = []) ∨
   (cutE ro.p num n = 0 ∧ ∃ vv sp os, OwnR vv sp os (cutP ro.p num n).txns ∧ z = .tuple ⟨[.agg ⟨[.int .i64 (cutP ro.p num n).next, vv]⟩, .int .i64 0]⟩ ∧ L' = Xi vv sp os))) := by
 have ha := fun nb => asks_spec ρ v ro h num 138 [.pointer (some ⟨nb, 0, none⟩)] [XI nb n] (fun _ => [XI nb n]) (cutF n) (cutG n) (fun _ => rfl) (fun ρ1 _ b o P x S ss ms hP hX hx _ => cut1_spec ρ1 nb n hn b o P x S ss ms hP hX hx)
 refine Zg Tryz.func58 rfl rfl rfl fun u R => ?_
 simp only [Zx, List.cons_append, List.nil_append]
 simp only [asksX_cut] at ha
 unfold cutE cutP
 generalize asksP (cutF n) (cutG n) ro.p num = pa at *
 generalize XM (cutF n) ro.p num = e at *
 repeat' (first | (refine Ze (.func 134) ?_; refine qC rfl rfl (ha _) ?_; rintro v ρ' L' hle ⟨hl1, ⟨he, rfl, rfl⟩ | ⟨he, vv, sp, os, hR, rfl, rfl⟩⟩ <;> (try simp only [kM, kN, kO])) | (refine ZE ?_; refine Zo (Zd rfl) rfl rfl ?_) | (refine Zj ?_; first | (refine Zf ?_; refine qQ ?_) | refine Zn ?_) | refine Zb ?_ | (refine Zi ?_; refine Zv ?_) | (refine Zh ?_; refine Zu ?_) | intro _)
 ·repeat' (first | (refine ZE ?_; refine Zo (Zd rfl) rfl rfl ?_) | (refine Zj ?_; first | (refine Zf ?_; refine qQ ?_) | refine Zn ?_) | refine Zb ?_ | (refine Zi ?_; refine Zv ?_) | (refine Zh ?_; refine Zu ?_) | intro _)
  exact qE (L' := []) ⟨hl1, .inl ⟨he, rfl, rfl⟩⟩
 ·subst he
  obtain ⟨va, vc, rfl, _⟩ := hR.own.slice
  repeat' (first | (refine ZE ?_; refine Zo (Zd rfl) rfl rfl ?_) | (refine Zj ?_; first | (refine Zf ?_; refine qQ ?_) | refine Zn ?_) | refine Zb ?_ | (refine Zi ?_; refine Zv ?_) | (refine Zh ?_; refine Zu ?_) | intro _)
  exact qE (L' := Xi _ sp os) ⟨hl1, .inr ⟨by trivial, _, sp, os, hR, rfl, rfl⟩⟩
def costL (t : TxP) : List Int := 1 :: ((if t.state = 1 then [1] else []) ++ t.stack.map Lf.cost)
def resL (l : List TxP) : List Int := l.flatMap costL
def resN (p : Yr) : Int := (resL p.txns).sum
def leastF : Nat → List TxP → Nat
 | n, [] => n
 | n, t :: r => leastF (if n = 0 ∨ t.first < n then t.first else n) r
def leastP (p : Yr) : Nat := leastF 0 p.txns
theorem costL_len {t : TxP} (h : TxG t) : (costL t).length ≤ 1099511627780 := by
 have := h.sl
 unfold costL
 simp only [List.length_cons, List.length_append, List.length_map]
 split <;> simp <;> omega
theorem costL_in {t : TxP} (h : TxG t) : ∀ x ∈ costL t, 0 ≤ x ∧ x ≤ 400 := fun x hx => by
 unfold costL at hx
 rcases List.mem_cons.1 hx with rfl | hx
 ·omega
 ·rcases List.mem_append.1 hx with hx | hx
  ·split at hx
   ·rw [List.mem_singleton] at hx; omega
   ·cases hx
  ·obtain ⟨s, hs, rfl⟩ := List.mem_map.1 hx
   have := h.st s hs; omega
theorem resL_len : ∀ {l : List TxP}, (∀ t ∈ l, TxG t) → (resL l).length ≤ l.length * 1099511627780
 | [], _ => by simp [resL]
 | t :: r, h => by
  have h1 := costL_len (h t (by simp))
  have h2 := resL_len (l := r) (fun x hx => h x (by simp [hx]))
  have e : resL (t :: r) = costL t ++ resL r := rfl
  rw [e, List.length_append, List.length_cons]; omega
theorem resL_in {l : List TxP} (h : ∀ t ∈ l, TxG t) : ∀ x ∈ resL l, 0 ≤ x ∧ x ≤ 400 := fun x hx => by
 obtain ⟨t, ht, hx⟩ := List.mem_flatMap.1 hx
 exact costL_in (h t ht) x hx
theorem resL_take (l : List TxP) (k : Nat) (h : k < l.length) : resL (l.take (k + 1)) = resL (l.take k) ++ costL l[k] := by
 unfold resL
 rw [List.take_succ_eq_append_getElem h, List.flatMap_append]; simp
theorem sum_bound {l : List Int} (h : ∀ x ∈ l, 0 ≤ x ∧ x ≤ 400) : 0 ≤ l.sum ∧ l.sum ≤ 400 * (l.length : Int) := by
 induction l with
 | nil => simp
 | cons a r ih =>
  have h1 := h a (by simp)
  have h2 := ih (fun x hx => h x (by simp [hx]))
  rw [List.sum_cons, List.length_cons]; omega
theorem sum_take (l : List Int) (k : Nat) (h : k < l.length) : (l.take (k + 1)).sum = (l.take k).sum + l[k] := by
 rw [List.take_succ_eq_append_getElem h, List.sum_append]; simp
theorem rsum_spec (ρ : Hp) (a : Option Addr) (n c : Nat) (l : List Int) (h : SIn ρ iV a n l) (hb : ∀ x ∈ l, 0 ≤ x ∧ x ≤ 400) (hn : n ≤ 10000000000000000) : Spec Tryz.prog 126 [.slice a n c] ρ []
  (fun z ρ' L' => z = .int .i64 l.sum ∧ ρ' = ρ ∧ L' = []) := by
 have hl := h.len
 refine Zg Tryz.func126 rfl rfl rfl fun u R => ?_
 simp only [Zx, List.cons_append, List.nil_append]
 repeat' (first | (refine ZE ?_; refine Zo (Zd rfl) rfl rfl ?_) | (refine Zj ?_; first | (refine Zf ?_; refine qQ ?_) | refine Zn ?_) | refine Zb ?_ | (refine Zi ?_; refine Zv ?_) | (refine Zh ?_; refine Zu ?_) | intro _)
 refine ZB [(2, _), (6, _), (7, _)] (fun (ζ : (Nat) × (Int)) => [(8, .int .i64 ζ.1), (3, .int .i64 ζ.2)]) (fun (ζ : (Nat) × (Int)) => ρ) (fun (ζ : (Nat) × (Int)) => []) (fun (ζ : (Nat) × (Int)) => ζ.1 ≤ n ∧ ζ.2 = (l.take ζ.1).sum) (fun (ζ : (Nat) × (Int)) => n - ζ.1) ((0, 0)) (⟨Nat.zero_le _, by simp⟩) Zm Zm rfl tk ?_
 rintro ⟨k, s⟩ hI
 try simp only [List.cons_append, List.nil_append, List.append_assoc, List.append_eq] at hI ⊢
 try dsimp only at hI ⊢
 obtain ⟨hk, hs⟩ := hI
 by_cases hlt : k < n
 ·obtain ⟨b, off, C, T, fr, rfl, hbb, hc⟩ := h.get (show k < l.length by omega)
  have hx := sum_take l k (by omega)
  have hbd := sum_bound (l := l.take k) (fun x hx => hb x (List.mem_of_mem_take hx))
  have hbe := hb _ (List.getElem_mem (show k < l.length by omega))
  rw [List.length_take] at hbd
  generalize l[k]'(by omega) = y at *
  rw [← hs] at hx hbd
  repeat' (first | (refine ZE ?_; refine Zo (Zd rfl) rfl rfl ?_) | (refine Zj ?_; first | (refine Zf ?_; refine qQ ?_) | refine Zn ?_) | refine Zb ?_ | (refine Zi ?_; refine Zv ?_) | (refine Zh ?_; refine Zu ?_) | intro _)
  refine Zq (k + 1, s + y) (⟨hlt, hx.symm⟩) Zm Zm rfl tk inferInstance (by first | omega | (dsimp only; omega))
 ·rw [List.take_of_length_le (by omega)] at hs
  subst hs
  repeat' (first | (refine ZE ?_; refine Zo (Zd rfl) rfl rfl ?_) | (refine Zj ?_; first | (refine Zf ?_; refine qQ ?_) | refine Zn ?_) | refine Zb ?_ | (refine Zi ?_; refine Zv ?_) | (refine Zh ?_; refine Zu ?_) | intro _)
  exact qE (L' := []) ⟨rfl, rfl, rfl⟩
theorem reserved_spec (ρ : Hp) (v : SV) (r : Ros) (h : RosIn ρ v r) : Spec Tryz.prog 44 [.agg ⟨Yh v r⟩] ρ []
  (fun z ρ' L' => ρ.le ρ' ∧ z = .int .i64 (if rosOk r then resN r.p else 0) ∧ L' = []) := by
 have hl := h.at'.at'.len
 have hA := h.at'.at'
 have hck := roscheck_spec ρ v r h
 refine Zg Tryz.func44 rfl rfl rfl fun u R => ?_
 simp only [Zx, List.cons_append, List.nil_append]
 cases hok : rosOk r
 ·rw [hok] at hck
  simp only [Bool.false_eq_true, if_false] at hck ⊢
  repeat' (first | (refine Ze (.func 42) ?_; refine qC rfl rfl (hck) ?_; rintro v ρ' L' hle ⟨rfl, rfl, rfl⟩ <;> (try simp only [kM, kN, kO])) | (refine ZE ?_; refine Zo (Zd rfl) rfl rfl ?_) | (refine Zj ?_; first | (refine Zf ?_; refine qQ ?_) | refine Zn ?_) | refine Zb ?_ | (refine Zi ?_; refine Zv ?_) | (refine Zh ?_; refine Zu ?_) | intro _)
  exact qE (L' := []) ⟨Hp.le_refl _, rfl, rfl⟩
 ·have hG : RosG r.p := WP.1 (by rw [rosOk_p]; exact hok)
  have h8 := hG.len
  have hpl : r.p.txns.length = r.txns.length := by simp [Ros.p]
  have hgs : ∀ t ∈ r.p.txns, TxG t := fun t ht => (hG.tx t ht).2.2
  rw [hok] at hck
  simp only [if_true] at hck ⊢
  repeat' (first | (refine Ze (.func 42) ?_; refine qC rfl rfl (hck) ?_; rintro v ρ' L' hle ⟨rfl, rfl, rfl⟩ <;> (try simp only [kM, kN, kO])) | (refine ZE ?_; refine Zo (Zd rfl) rfl rfl ?_) | (refine Zj ?_; first | (refine Zf ?_; refine qQ ?_) | refine Zn ?_) | refine Zb ?_ | (refine Zi ?_; refine Zv ?_) | (refine Zh ?_; refine Zu ?_) | intro _)
  refine ZB [(2, _), (12, _), (13, _)] (fun (ζ : (Nat) × (Value) × (List Value) × (Nat)) => [(14, .int .i64 ζ.1), (3, ζ.2.1)]) (fun (ζ : (Nat) × (Value) × (List Value) × (Nat)) => ρ') (fun (ζ : (Nat) × (Value) × (List Value) × (Nat)) => [ZK ζ.2.1 ((resL (r.p.txns.take ζ.1)).map iV) ζ.2.2.1 3]) (fun (ζ : (Nat) × (Value) × (List Value) × (Nat)) => ζ.1 ≤ v.n ∧ ζ.2.2.2 = (resL (r.p.txns.take ζ.1)).length ∧ OwnS ζ.2.1 ζ.2.2.2 ((resL (r.p.txns.take ζ.1)).map iV) ζ.2.2.1 1) (fun (ζ : (Nat) × (Value) × (List Value) × (Nat)) => v.n - ζ.1) ((0, .slice none 0 0, [], 0)) (⟨Nat.zero_le _, rfl, OwnS.nil 1⟩) Zm Zm rfl tk ?_
  rintro ⟨k, vv, sp, n⟩ hI
  try simp only [List.cons_append, List.nil_append, List.append_assoc, List.append_eq] at hI ⊢
  try dsimp only at hI ⊢
  obtain ⟨hk, hn, hown⟩ := hI
  have hnb := resL_len (l := r.p.txns.take k) (fun t ht => hgs t (List.mem_of_mem_take ht))
  rw [List.length_take] at hnb
  by_cases hlt : k < v.n
  ·obtain ⟨b, off, C, T, fr, e1, hb, hfit, hc⟩ := hA.get (show k < r.txns.length by omega)
   have hx2 := resL_take r.p.txns k (by omega)
   have hpk : r.p.txns[k]'(by omega) = (r.txns[k]'(by omega)).p := by simp [Ros.p]
   have hin := h.tx _ (List.getElem_mem (show k < r.txns.length by omega))
   have hxg : TxG (r.txns[k]'(by omega)).p := hgs _ (by rw [← hpk]; exact List.getElem_mem _)
   rw [hpk] at hx2
   generalize r.txns[k]'(by omega) = x at *
   have hsl : x.stack.length ≤ 1099511627776 := hxg.sl
   have hs1 := hin.s.len
   rw [e1]
   generalize hRL : resL (r.p.txns.take k) = RL at *
   have hcost : ∃ B : List Int, B = 1 :: (if x.state = 1 then [1] else []) ∧ costL x.p = B ++ x.stack.map Lf.cost ∧ B.length ≤ 2 := by
    refine ⟨_, rfl, by unfold costL; simp [Tx.p], ?_⟩
    split <;> simp
   obtain ⟨B, hB, hcB, hBl⟩ := hcost
   by_cases hst : x.state = 1
   ·rw [if_pos hst] at hB
    subst hB
    repeat' (first | (refine Zr rfl rfl rfl rfl (by simp) rfl rfl (fun bs => ?_)) | (refine ZV (ys := [iV 1]) (m := 1) rfl rfl hown (hR := by infer_instance) SrcV.lit rfl rfl (by decide) rfl (by omega) (by omega) rfl (fun v1 sp1 hown1 => ?_)) | (refine ZV (ys := [iV 1]) (m := 1) rfl rfl hown1 (hR := by infer_instance) SrcV.lit rfl rfl (by decide) rfl (by omega) (by omega) rfl (fun v2 sp2 hown2 => ?_)) | (refine ZE ?_; refine Zo (Zd rfl) rfl rfl ?_) | (refine Zj ?_; first | (refine Zf ?_; refine qQ ?_) | refine Zn ?_) | refine Zb ?_ | (refine Zi ?_; refine Zv ?_) | (refine Zh ?_; refine Zu ?_) | intro _)
    have hm2 : RL.map iV ++ [iV 1] ++ [iV 1] = (RL ++ [1, 1]).map iV := by simp
    rw [hm2] at hown2 ⊢
    refine ZB [(2, _), (5, _), (12, _), (13, _), (14, _), (28, _), (29, _)] (fun (ζ : (Nat) × (Value) × (List Value) × (Nat) × (List Int)) => [(30, .int .i64 ζ.1), (3, ζ.2.1)]) (fun (ζ : (Nat) × (Value) × (List Value) × (Nat) × (List Int)) => ρ') (fun (ζ : (Nat) × (Value) × (List Value) × (Nat) × (List Int)) => [ZK ζ.2.1 (ζ.2.2.2.2.map iV) ζ.2.2.1 3]) (fun (ζ : (Nat) × (Value) × (List Value) × (Nat) × (List Int)) => ζ.1 ≤ x.sv.n ∧ ζ.2.2.2.1 = n + 2 + ζ.1 ∧ ζ.2.2.2.2 = RL ++ [1, 1] ++ (x.stack.take ζ.1).map Lf.cost ∧ OwnS ζ.2.1 ζ.2.2.2.1 (ζ.2.2.2.2.map iV) ζ.2.2.1 1) (fun (ζ : (Nat) × (Value) × (List Value) × (Nat) × (List Int)) => x.sv.n - ζ.1) ((0, v2, sp2, n + 2, RL ++ [1, 1])) (⟨Nat.zero_le _, rfl, by simp, hown2⟩) Zm Zm rfl tk ?_
    rintro ⟨j, v4, sp4, m, W⟩ hI
    try simp only [List.cons_append, List.nil_append, List.append_assoc, List.append_eq] at hI ⊢
    try dsimp only at hI ⊢
    obtain ⟨hj, hm, hW, hown4⟩ := hI
    by_cases hlt2 : j < x.sv.n
    ·obtain ⟨b2, off2, C2, T2, fr2, f1, hb2, hfit2, hc2⟩ := hin.s.get (show j < x.stack.length by omega)
     have hy := List.take_succ_eq_append_getElem (show j < x.stack.length by omega)
     generalize x.stack[j]'(by omega) = y at *
     rw [f1]
     repeat' (first | (refine Zr rfl rfl rfl rfl (by simp) rfl rfl (fun bs3 => ?_)) | (refine ZV (ys := [iV y.cost]) (m := 1) rfl rfl hown4 (hR := by infer_instance) SrcV.lit rfl rfl (by decide) rfl (by omega) (by omega) rfl (fun v5 sp5 hown5 => ?_)) | (refine ZE ?_; refine Zo (Zd rfl) rfl rfl ?_) | (refine Zj ?_; first | (refine Zf ?_; refine qQ ?_) | refine Zn ?_) | refine Zb ?_ | (refine Zi ?_; refine Zv ?_) | (refine Zh ?_; refine Zu ?_) | intro _)
     have hm3 : W.map iV ++ [iV y.cost] = (W ++ [y.cost]).map iV := by simp
     rw [hm3] at hown5 ⊢
     rw [← f1]
     refine Zq (j + 1, v5, sp5, m + 1, W ++ [y.cost]) (⟨hlt2, by dsimp only; omega, by dsimp only; rw [hW, hy]; simp, hown5⟩) Zm Zm rfl tk inferInstance (by first | omega | (dsimp only; omega))
    ·have hj2 : x.stack.take j = x.stack := List.take_of_length_le (by omega)
     have hfin : W = resL (r.p.txns.take (k + 1)) := by rw [hW, hj2, hx2, hcB]; simp
     have hfl : m = (resL (r.p.txns.take (k + 1))).length := by rw [← hfin, hW, hj2]; simp; omega
     rw [hfin] at hown4 ⊢
     repeat' (first | (refine ZE ?_; refine Zo (Zd rfl) rfl rfl ?_) | (refine Zj ?_; first | (refine Zf ?_; refine qQ ?_) | refine Zn ?_) | refine Zb ?_ | (refine Zi ?_; refine Zv ?_) | (refine Zh ?_; refine Zu ?_) | intro _)
     rw [← e1]
     refine Zq (k + 1, v4, sp4, m) (⟨hlt, hfl, hown4⟩) Zm Zm rfl tk inferInstance (by first | omega | (dsimp only; omega))
   ·rw [if_neg hst] at hB
    subst hB
    repeat' (first | (refine Zr rfl rfl rfl rfl (by simp) rfl rfl (fun bs => ?_)) | (refine ZV (ys := [iV 1]) (m := 1) rfl rfl hown (hR := by infer_instance) SrcV.lit rfl rfl (by decide) rfl (by omega) (by omega) rfl (fun v1 sp1 hown1 => ?_)) | (refine ZE ?_; refine Zo (Zd rfl) rfl rfl ?_) | (refine Zj ?_; first | (refine Zf ?_; refine qQ ?_) | refine Zn ?_) | refine Zb ?_ | (refine Zi ?_; refine Zv ?_) | (refine Zh ?_; refine Zu ?_) | intro _)
    have hm2 : RL.map iV ++ [iV 1] = (RL ++ [1]).map iV := by simp
    rw [hm2] at hown1 ⊢
    refine ZB [(2, _), (5, _), (12, _), (13, _), (14, _), (28, _), (29, _)] (fun (ζ : (Nat) × (Value) × (List Value) × (Nat) × (List Int)) => [(30, .int .i64 ζ.1), (3, ζ.2.1)]) (fun (ζ : (Nat) × (Value) × (List Value) × (Nat) × (List Int)) => ρ') (fun (ζ : (Nat) × (Value) × (List Value) × (Nat) × (List Int)) => [ZK ζ.2.1 (ζ.2.2.2.2.map iV) ζ.2.2.1 3]) (fun (ζ : (Nat) × (Value) × (List Value) × (Nat) × (List Int)) => ζ.1 ≤ x.sv.n ∧ ζ.2.2.2.1 = n + 1 + ζ.1 ∧ ζ.2.2.2.2 = RL ++ [1] ++ (x.stack.take ζ.1).map Lf.cost ∧ OwnS ζ.2.1 ζ.2.2.2.1 (ζ.2.2.2.2.map iV) ζ.2.2.1 1) (fun (ζ : (Nat) × (Value) × (List Value) × (Nat) × (List Int)) => x.sv.n - ζ.1) ((0, v1, sp1, n + 1, RL ++ [1])) (⟨Nat.zero_le _, rfl, by simp, hown1⟩) Zm Zm rfl tk ?_
    rintro ⟨j, v4, sp4, m, W⟩ hI
    try simp only [List.cons_append, List.nil_append, List.append_assoc, List.append_eq] at hI ⊢
    try dsimp only at hI ⊢
    obtain ⟨hj, hm, hW, hown4⟩ := hI
    by_cases hlt2 : j < x.sv.n
    ·obtain ⟨b2, off2, C2, T2, fr2, f1, hb2, hfit2, hc2⟩ := hin.s.get (show j < x.stack.length by omega)
     have hy := List.take_succ_eq_append_getElem (show j < x.stack.length by omega)
     generalize x.stack[j]'(by omega) = y at *
     rw [f1]
     repeat' (first | (refine Zr rfl rfl rfl rfl (by simp) rfl rfl (fun bs3 => ?_)) | (refine ZV (ys := [iV y.cost]) (m := 1) rfl rfl hown4 (hR := by infer_instance) SrcV.lit rfl rfl (by decide) rfl (by omega) (by omega) rfl (fun v5 sp5 hown5 => ?_)) | (refine ZE ?_; refine Zo (Zd rfl) rfl rfl ?_) | (refine Zj ?_; first | (refine Zf ?_; refine qQ ?_) | refine Zn ?_) | refine Zb ?_ | (refine Zi ?_; refine Zv ?_) | (refine Zh ?_; refine Zu ?_) | intro _)
     have hm3 : W.map iV ++ [iV y.cost] = (W ++ [y.cost]).map iV := by simp
     rw [hm3] at hown5 ⊢
     rw [← f1]
     refine Zq (j + 1, v5, sp5, m + 1, W ++ [y.cost]) (⟨hlt2, by dsimp only; omega, by dsimp only; rw [hW, hy]; simp, hown5⟩) Zm Zm rfl tk inferInstance (by first | omega | (dsimp only; omega))
    ·have hj2 : x.stack.take j = x.stack := List.take_of_length_le (by omega)
     have hfin : W = resL (r.p.txns.take (k + 1)) := by rw [hW, hj2, hx2, hcB]; simp
     have hfl : m = (resL (r.p.txns.take (k + 1))).length := by rw [← hfin, hW, hj2]; simp; omega
     rw [hfin] at hown4 ⊢
     repeat' (first | (refine ZE ?_; refine Zo (Zd rfl) rfl rfl ?_) | (refine Zj ?_; first | (refine Zf ?_; refine qQ ?_) | refine Zn ?_) | refine Zb ?_ | (refine Zi ?_; refine Zv ?_) | (refine Zh ?_; refine Zu ?_) | intro _)
     rw [← e1]
     refine Zq (k + 1, v4, sp4, m) (⟨hlt, hfl, hown4⟩) Zm Zm rfl tk inferInstance (by first | omega | (dsimp only; omega))
  ·have hk2 : k = r.p.txns.length := by omega
   rw [show r.p.txns.take k = r.p.txns by rw [hk2, List.take_length]] at hown hn hnb ⊢
   refine tc_freeze (ZK vv ((resL r.p.txns).map iV) sp 3) (fun ρ3 hle3 hfz => ?_)
   obtain ⟨sa, sc, e1, hsc, hA2⟩ := hown.sIn hfz
   subst e1
   have hsm := rsum_spec ρ3 sa n sc (resL r.p.txns) hA2 (resL_in hgs) (by omega)
   unfold resN
   repeat' (first | (refine Ze (.func 126) ?_; refine qC rfl rfl (hsm) ?_; rintro v ρ' L' hle ⟨rfl, rfl, rfl⟩ <;> (try simp only [kM, kN, kO])) | (refine ZE ?_; refine Zo (Zd rfl) rfl rfl ?_) | (refine Zj ?_; first | (refine Zf ?_; refine qQ ?_) | refine Zn ?_) | refine Zb ?_ | (refine Zi ?_; refine Zv ?_) | (refine Zh ?_; refine Zu ?_) | intro _)
   exact qE (L' := []) ⟨hle3, rfl, rfl⟩
theorem leastF_le : ∀ {l : List TxP} {n : Nat}, n ≠ 0 → (∀ t ∈ l, n ≤ t.first) → leastF n l = n
 | [], _, _, _ => rfl
 | t :: r, n, h0, h => by
  have h1 := h t (by simp)
  rw [leastF, if_neg (by omega)]
  exact leastF_le h0 (fun x hx => h x (by simp [hx]))
theorem leastF_min : ∀ {l : List TxP} {y : TxP} {n : Nat}, y ∈ l → 1 ≤ y.first → (∀ t ∈ l, y.first ≤ t.first) → (n = 0 ∨ y.first ≤ n) → leastF n l = y.first
 | t :: r, y, n, hm, h1, h, hn => by
  have ht := h t (by simp)
  rw [leastF]
  by_cases hy : y ∈ r
  ·refine leastF_min hy h1 (fun x hx => h x (by simp [hx])) ?_
   split <;> omega
  ·have e : y = t := by rcases List.mem_cons.1 hm with e | e; exact e; exact absurd e hy
   subst e
   have : (if n = 0 ∨ y.first < n then y.first else n) = y.first := by split <;> omega
   rw [this]
   exact leastF_le (by omega) (fun x hx => h x (by simp [hx]))
theorem rleast_spec (ρ : Hp) (v : SV) (r : Ros) (h : RosIn ρ v r) : Spec Tryz.prog 43 [.agg ⟨Yh v r⟩] ρ [] (fun z ρ' L' => z = .int .u64 (if rosOk r then leastP r.p else 0 : Nat) ∧ ρ' = ρ ∧ L' = []) := by
 have hl := h.at'.at'.len
 have hck := roscheck_spec ρ v r h
 refine Zg Tryz.func43 rfl rfl rfl fun u R => ?_
 simp only [Zx, List.cons_append, List.nil_append]
 cases hok : rosOk r
 ·rw [hok] at hck
  simp only [Bool.false_eq_true, if_false] at hck ⊢
  repeat' (first | (refine Ze (.func 42) ?_; refine qC rfl rfl (hck) ?_; rintro v ρ' L' hle ⟨rfl, rfl, rfl⟩ <;> (try simp only [kM, kN, kO])) | (refine ZE ?_; refine Zo (Zd rfl) rfl rfl ?_) | (refine Zj ?_; first | (refine Zf ?_; refine qQ ?_) | refine Zn ?_) | refine Zb ?_ | (refine Zi ?_; refine Zv ?_) | (refine Zh ?_; refine Zu ?_) | intro _)
  exact qE (L' := []) ⟨rfl, rfl, rfl⟩
 ·have hG : RosG r.p := WP.1 (by rw [rosOk_p]; exact hok)
  rw [hok] at hck
  simp only [if_true] at hck ⊢
  by_cases h0 : v.n = 0
  ·have : r.txns = [] := List.eq_nil_of_length_eq_zero (by omega)
   have e : leastP r.p = 0 := by unfold leastP; simp [Ros.p, this, leastF]
   rw [e]
   repeat' (first | (refine Ze (.func 42) ?_; refine qC rfl rfl (hck) ?_; rintro v ρ' L' hle ⟨rfl, rfl, rfl⟩ <;> (try simp only [kM, kN, kO])) | (refine ZE ?_; refine Zo (Zd rfl) rfl rfl ?_) | (refine Zj ?_; first | (refine Zf ?_; refine qQ ?_) | refine Zn ?_) | refine Zb ?_ | (refine Zi ?_; refine Zv ?_) | (refine Zh ?_; refine Zu ?_) | intro _)
   exact qE (L' := []) ⟨rfl, rfl, rfl⟩
  ·have hm := minTx_spec ρ v r.txns h.at' (by omega)
   repeat' (first | (refine Ze (.func 42) ?_; refine qC rfl rfl (hck) ?_; rintro v ρ' L' hle ⟨rfl, rfl, rfl⟩ <;> (try simp only [kM, kN, kO])) | (refine Ze (.func 123) ?_; refine qC rfl rfl (hm) ?_; rintro v ρ' L' hle ⟨rfl, y, rfl, hy, hmin, rfl⟩ <;> (try simp only [kM, kN, kO])) | (refine ZE ?_; refine Zo (Zd rfl) rfl rfl ?_) | (refine Zj ?_; first | (refine Zf ?_; refine qQ ?_) | refine Zn ?_) | refine Zb ?_ | (refine Zi ?_; refine Zv ?_) | (refine Zh ?_; refine Zu ?_) | intro _)
   have e : leastP r.p = y.first := by
    have hy2 : y.p ∈ r.p.txns := List.mem_map.2 ⟨y, hy, rfl⟩
    refine leastF_min (y := y.p) hy2 ((hG.tx _ hy2).2.2.f1) (fun t ht => ?_) (.inl rfl)
    obtain ⟨x, hx, rfl⟩ := List.mem_map.1 ht
    exact hmin x hx
   rw [e]
   exact qE (L' := []) ⟨rfl, rfl, rfl⟩
def zX : Tx := ⟨0, 0, 0, 0, 0, [], [], ⟨none, 0, 0⟩, ⟨none, 0, 0⟩⟩
theorem zX_in (ρ : Hp) : Tx.In ρ zX := ⟨AIn.nil, SIn.nil, Nat.zero_le _, Nat.zero_le _, Nat.le_refl _, Nat.le_refl _⟩
def FindR (o : Option TxP) (x : Tx) (b : Bool) : Prop := (∃ t, o = some t ∧ b = true ∧ x.p = t) ∨ (o = none ∧ b = false ∧ x = zX)
theorem asks_ok {f : TxP → Int} {g : TxP → TxP} {p : Yr} {num : Int} (hg : ∀ t, (g t).num = t.num) (hgk : ∀ t, TxG t → t.state = 1 → f t = 0 → TxG (g t)) (he : XM f p num = 0) : RosG (asksP f g p num) := by
 unfold asksP
 rw [if_pos he]
 unfold XM at he
 cases h1 : XW p
 ·rw [h1] at he; simp at he
 ·have hG := WP.1 h1
  rw [h1] at he
  simp only [if_true] at he
  cases hf : Yf p num with
  | none => rw [hf] at he; cases he
  | some t =>
   rw [hf] at he
   unfold WJ at he
   dsimp only at he
   split at he
   ·rename_i hs
    obtain ⟨hm, hn⟩ := findT_mem hf
    obtain ⟨i, hi, rfl⟩ := List.mem_iff_getElem.1 hm
    show RosG (putT p (g p.txns[i]))
    rw [putT_set hG hi (hg _)]
    exact hG.set hi (hg _) (hgk _ (hG.tx _ hm).2.2 hs he)
   ·cases he
theorem markG_ok {t : TxP} (h : TxG t) (hs : t.state = 1) (hf : XR t = 0) : TxG (markG t) := by
 unfold XR at hf
 have h8 : t.marks.length < 8 := by
  by_cases h8 : 8 ≤ t.marks.length
  ·rw [if_pos h8] at hf; cases hf
  ·omega
 have hfu := h.fu
 refine ⟨h.s1, h.s3, h.f1, h.fu, h.ul, h.lm, h.st, h.so, ?_, fun _ => hs, fun m hm => ?_, ?_⟩
 ·show (t.marks ++ [t.undo]).length ≤ 8
  rw [List.length_append, List.length_singleton]; omega
 ·rcases List.mem_append.1 hm with hm | hm
  ·exact h.mb m hm
  ·rw [List.mem_singleton] at hm
   subst hm
   exact ⟨hfu, Nat.le_refl _⟩
 ·show (t.marks ++ [t.undo]).Pairwise (· ≤ ·)
  refine List.pairwise_append.2 ⟨h.mo, by simp, fun a ha b hb => ?_⟩
  rw [List.mem_singleton] at hb
  subst hb
  exact (h.mb a ha).2
theorem cutG_ok {t : TxP} (h : TxG t) (hs : t.state = 1) (n : Int) : TxG (cutG n t) := by
 refine ⟨h.s1, h.s3, h.f1, h.fu, h.ul, h.lm, h.st, h.so, ?_, fun _ => hs, fun m hm => h.mb m (List.mem_of_mem_take hm), h.mo.sublist (List.take_sublist _ _)⟩
 show (t.marks.take n.toNat).length ≤ 8
 have := h.ml
 rw [List.length_take]; omega
theorem markZ_spec (ρ : Hp) (v : SV) (ro : Ros) (h : RosIn ρ v ro) (num : Int) : Spec Tryz.prog 57 [.agg ⟨Yh v ro⟩, .int .i64 num] ρ []
  (fun z ρ' L' => (ρ.le ρ' ∧ ∃ (v' : SV) (ro' : Ros), z = .tuple ⟨[.agg ⟨Yh v' ro'⟩, .int .i64 (markK ro.p num), .int .i64 (markE ro.p num)]⟩ ∧ RosIn ρ' v' ro' ∧ ro'.p = XX ro.p num) ∧ L' = []) := by
 refine Spec.freeze (Post2 := fun z ρ' => ρ.le ρ' ∧ ∃ (v' : SV) (ro' : Ros), z = .tuple ⟨[.agg ⟨Yh v' ro'⟩, .int .i64 (markK ro.p num), .int .i64 (markE ro.p num)]⟩ ∧ RosIn ρ' v' ro' ∧ ro'.p = XX ro.p num) (mark_spec ρ v ro h num) ?_
 rintro z ρ' L' _ ⟨hl1, ⟨he, rfl, rfl⟩ | ⟨he, vv, sp, os, hR, rfl, rfl⟩⟩ ρ2 hl2 hf
 ·have e1 : markK ro.p num = 0 := by unfold markK; rw [if_neg he]
  refine ⟨Hp.le_trans hl1 hl2, Xn, ⟨0, []⟩, by rw [e1], RosIn.z, ?_⟩
  unfold XX asksP
  exact (if_neg (show ¬ XM XR ro.p num = 0 from he)).symm
 ·have e1 : markK ro.p num = marksN ro.p num := by unfold markK; rw [if_pos he]
  obtain ⟨v', ro', e2, e3, e4⟩ := own_frozen (next := (XX ro.p num).next) hR (asks_ok (fun _ => rfl) (fun t h1 h2 h3 => markG_ok h1 h2 h3) he) rfl hf
  exact ⟨Hp.le_trans hl1 hl2, v', ro', by rw [e2, he, e1], e3, e4⟩
theorem rnew_spec (ρ : Hp) : Spec Tryz.prog 35 [] ρ [] (fun z ρ' L' => z = .agg ⟨Yh Xn ⟨1, []⟩⟩ ∧ ρ' = ρ ∧ L' = []) := by
 refine Zg Tryz.func35 rfl rfl rfl fun u R => ?_
 simp only [Zx, List.cons_append, List.nil_append]
 repeat' (first | (refine ZE ?_; refine Zo (Zd rfl) rfl rfl ?_) | (refine Zj ?_; first | (refine Zf ?_; refine qQ ?_) | refine Zn ?_) | refine Zb ?_ | (refine Zi ?_; refine Zv ?_) | (refine Zh ?_; refine Zu ?_) | intro _)
 exact qE (L' := []) ⟨rfl, rfl, rfl⟩
theorem rnew_in (ρ : Hp) : RosIn ρ Xn ⟨1, []⟩ := ⟨AS.nil, by simp⟩
theorem takeW (ρ : Hp) (v : SV) (ro : Ros) (h : RosIn ρ v ro) (rv : RV) (r : Rc) (hr : RcIn ρ rv r) {p p' : Yr} (hp : ro.p = p) (he : XY p r = 0) (hP : XK p r = p') : Spec Tryz.prog 60 [.agg ⟨Yh v ro⟩, .agg ⟨Xh rv r⟩] ρ []
  (fun z ρ' L' => ρ.le ρ' ∧ ∃ (v' : SV) (ro' : Ros), z = .tuple ⟨[.agg ⟨Yh v' ro'⟩, .int .i64 0]⟩ ∧ RosIn ρ' v' ro' ∧ ro'.p = p' ∧ L' = []) := by
 refine (takeF_spec ρ v ro h rv r hr).mono ?_
 rintro z ρ' L' _ ⟨⟨h1, v', ro', h2, h3, h4⟩, h5⟩
 rw [hp, he] at h2
 rw [hp, hP] at h4
 exact ⟨h1, v', ro', h2, h3, h4, h5⟩
theorem markW (ρ : Hp) (v : SV) (ro : Ros) (h : RosIn ρ v ro) (num : Int) {p p' : Yr} {k : Int} (hp : ro.p = p) (he : markE p num = 0) (hk : markK p num = k) (hP : XX p num = p') : Spec Tryz.prog 57 [.agg ⟨Yh v ro⟩, .int .i64 num] ρ []
  (fun z ρ' L' => ρ.le ρ' ∧ ∃ (v' : SV) (ro' : Ros), z = .tuple ⟨[.agg ⟨Yh v' ro'⟩, .int .i64 k, .int .i64 0]⟩ ∧ RosIn ρ' v' ro' ∧ ro'.p = p' ∧ L' = []) := by
 refine (markZ_spec ρ v ro h num).mono ?_
 rintro z ρ' L' _ ⟨⟨h1, v', ro', h2, h3, h4⟩, h5⟩
 rw [hp, he, hk] at h2
 rw [hp, hP] at h4
 exact ⟨h1, v', ro', h2, h3, h4, h5⟩
def wq1 : Rc := ⟨1, 1, 1, 0, 0, [], [], 0, [], []⟩
def wq2 : Rc := ⟨2, 2, 1, 1, 0, [⟨1, nilCV, ztC, nilCV, ztC⟩], [], 0, [], []⟩
def wq3 : Rc := ⟨4, 3, 1, 2, 1, [], [⟨1, ⟨0, 0, 0, []⟩, 1⟩], 0, [], []⟩
def wp1 : Yr := ⟨2, [⟨1, 1, 1, 1, 1, [], []⟩]⟩
def wp2 : Yr := ⟨2, [⟨1, 1, 1, 1, 1, [], [1]⟩]⟩
def wp3 : Yr := ⟨2, [⟨1, 1, 1, 2, 2, [⟨2, 1⟩], [1]⟩]⟩
def wp4 : Yr := ⟨2, [⟨1, 1, 1, 3, 3, [⟨3, 3⟩], [1]⟩]⟩
theorem wqA : XY ⟨1, []⟩ wq1 = 0 ∧ XK ⟨1, []⟩ wq1 = wp1 := by decide +kernel
theorem wqB : markE wp1 1 = 0 ∧ markK wp1 1 = 1 ∧ XX wp1 1 = wp2 := by decide +kernel
theorem wqC : XY wp2 wq2 = 0 ∧ XK wp2 wq2 = wp3 := by decide +kernel
theorem wqD : XY wp3 wq3 = 0 ∧ XK wp3 wq3 = wp4 := by decide +kernel
theorem wqE : whereE wp4 1 1 = 0 ∧ whereV wp4 1 1 = 1 ∧ XW wp4 = true ∧ resN wp4 = 5 ∧ leastP wp4 = 1 := by decide +kernel
theorem wakes18_spec (ρ : Hp) : Spec Tryz.prog 32 [] ρ [] (fun v ρ' L' => v = .bool true ∧ ρ.le ρ' ∧ L' = []) := by
 have hρ := Hp.le_refl ρ
 have hT1 := takeW ρ Xn ⟨1, []⟩ (rnew_in ρ) noRV wq1 ⟨AS.nil, by simp [wq1], AS.nil, AS.nil, AS.nil, by simp [wq1]⟩ rfl wqA.1 wqA.2
 refine Zg Tryz.func32 rfl rfl rfl fun u R => ?_
 simp only [Zx, List.cons_append, List.nil_append]
 repeat' (first | (refine Ze (.func 35) ?_; refine qC rfl rfl (rnew_spec _) ?_; rintro v ρ' L' hle ⟨rfl, rfl, rfl⟩ <;> (try simp only [kM, kN, kO])) | (refine Ze (.func 60) ?_; refine qC rfl rfl (hT1) ?_; rintro v ρ' L' hle ⟨hl1, v1, ro1, rfl, hR1, hp1, rfl⟩ <;> (try simp only [kM, kN, kO])) | (refine Ze (.func 57) ?_; refine qC rfl rfl (markW _ v1 ro1 hR1 1 hp1 wqB.1 wqB.2.1 wqB.2.2) ?_; rintro v ρ' L' hle ⟨hl2, v2, ro2, rfl, hR2, hp2, rfl⟩ <;> (try simp only [kM, kN, kO])) | (refine ZL (css := [imV ⟨1, nilCV, ztC, nilCV, ztC⟩]) (sz := 7) rfl rfl rfl rfl (by simp) (by simp) rfl (fun bs => ?_); simp only [List.flatten_cons, List.flatten_nil, List.append_nil]; refine Ys _ (h := Rem.here) (fun ρz hlz hfz => ?_); have hbs := hfz _ (List.mem_singleton.2 rfl); clear hfz; (try simp only [List.nil_append]); have hT2 := takeW ρz v2 ro2 (hR2.mono hlz) ⟨⟨some ⟨bs, 0, none⟩, 1, 1⟩, ⟨none, 0, 0⟩, ⟨none, 0, 0⟩, ⟨none, 0, 0⟩⟩ wq2 ⟨⟨⟨rfl, .inr ⟨bs, 0, _, _, _, rfl, hbs, Nat.le_refl _, rfl⟩, by simp⟩, by dsimp only; omega, by dsimp only; omega⟩, fun x hx => by (rw [List.mem_singleton.1 hx]; exact ⟨CI.nil, CI.nil⟩), AS.nil, AS.nil, AS.nil, by simp [wq2]⟩ hp2 wqC.1 wqC.2) | (refine Ze (.func 60) ?_; refine qC rfl rfl (hT2) ?_; rintro v ρ' L' hle ⟨hl3, v3, ro3, rfl, hR3, hp3, rfl⟩ <;> (try simp only [kM, kN, kO])) | (refine ZL (css := [stpV ⟨1, ⟨0, 0, 0, []⟩, 1⟩]) (sz := 6) rfl rfl rfl rfl (by simp) (by simp) rfl (fun bs2 => ?_); simp only [List.flatten_cons, List.flatten_nil, List.append_nil]; refine Ys _ (h := Rem.here) (fun ρy hly hfy => ?_); have hbs2 := hfy _ (List.mem_singleton.2 rfl); clear hfy; (try simp only [List.nil_append]); have hT3 := takeW ρy v3 ro3 (hR3.mono hly) ⟨⟨none, 0, 0⟩, ⟨some ⟨bs2, 0, none⟩, 1, 1⟩, ⟨none, 0, 0⟩, ⟨none, 0, 0⟩⟩ wq3 ⟨AS.nil, by simp [wq3], ⟨⟨rfl, .inr ⟨bs2, 0, _, _, _, rfl, hbs2, Nat.le_refl _, rfl⟩, by simp⟩, by dsimp only; omega, by dsimp only; omega⟩, AS.nil, AS.nil, fun s hs => by (rw [List.mem_singleton.1 hs]; exact ⟨by decide, by decide, by decide⟩)⟩ hp3 wqD.1 wqD.2) | (refine Ze (.func 60) ?_; refine qC rfl rfl (hT3) ?_; rintro v ρ' L' hle ⟨hl4, v4, ro4, rfl, hR4, hp4, rfl⟩ <;> (try simp only [kM, kN, kO])) | (refine ZE ?_; refine Zo (Zd rfl) rfl rfl ?_) | (refine Zj ?_; first | (refine Zf ?_; refine qQ ?_) | refine Zn ?_) | refine Zb ?_ | (refine Zi ?_; refine Zv ?_) | (refine Zh ?_; refine Zu ?_) | intro _)
 obtain ⟨z1, z2, z3, z4, z5⟩ := wqE
 have hok : rosOk ro4 = true := by rw [← rosOk_p, hp4]; exact z3
 have hnx : ro4.next = 2 := congrArg Yr.next hp4
 have hW := where_spec ρ' v4 ro4 hR4 1 1 ⟨by omega, by omega⟩
 rw [hp4, z1, z2] at hW
 simp only [if_true] at hW
 have hS := fun ρ2 (h : RosIn ρ2 v4 ro4) => reserved_spec ρ2 v4 ro4 h
 rw [hok, hp4, z4] at hS
 simp only [if_true] at hS
 have hL := fun ρ2 (h : RosIn ρ2 v4 ro4) => rleast_spec ρ2 v4 ro4 h
 rw [hok, hp4, z5] at hL
 simp only [if_true] at hL
 repeat' (first | (refine Ze (.func 55) ?_; refine qC rfl rfl (hW) ?_; rintro v ρ' L' hle ⟨hl5, rfl, rfl⟩ <;> (try simp only [kM, kN, kO])) | (refine Ze (.func 44) ?_; refine qC rfl rfl (hS _ (hR4.mono hl5)) ?_; rintro v ρ' L' hle ⟨hl6, rfl, rfl⟩ <;> (try simp only [kM, kN, kO])) | (refine Ze (.func 43) ?_; refine qC rfl rfl (hL _ ((hR4.mono hl5).mono hl6)) ?_; rintro v ρ' L' hle ⟨rfl, rfl, rfl⟩ <;> (try simp only [kM, kN, kO])) | (refine ZE ?_; refine Zo (Zd rfl) rfl rfl ?_) | (refine Zj ?_; first | (refine Zf ?_; refine qQ ?_) | refine Zn ?_) | refine Zb ?_ | (refine Zi ?_; refine Zv ?_) | (refine Zh ?_; refine Zu ?_) | intro _)
 exact qE (L' := []) ⟨rfl, Hp.le_trans hl1 (Hp.le_trans hl2 (Hp.le_trans hlz (Hp.le_trans hl3 (Hp.le_trans hly (Hp.le_trans hl4 (Hp.le_trans hl5 hl6)))))), rfl⟩ (hle := Hp.le_trans hl1 (Hp.le_trans hl2 (Hp.le_trans hlz (Hp.le_trans hl3 (Hp.le_trans hly (Hp.le_trans hl4 (Hp.le_trans hl5 hl6)))))))
def fewT (t : TxP) : TxP := { t with stack := t.stack.take 60, marks := t.marks.take 9 }
def fewRP (p : Yr) : Yr := ⟨p.next, (p.txns.take 9).map fewT⟩
theorem sIn_take {α : Type} {ρ : Hp} {g : α → Value} {a : Option Addr} {n : Nat} {l : List α} (h : SIn ρ g a n l) (k : Nat) : SIn ρ g a (min n k) (l.take k) := by
 have := h.take (hi' := min n k) (by omega)
 rwa [show l.take (min n k) = l.take k by rw [← h.len, List.take_eq_take_min (i := k), Nat.min_comm]] at this
theorem aIn_take {α : Type} {ρ : Hp} {sz : Nat} {g : α → List Value} {a : Option Addr} {n : Nat} {l : List α} (h : AIn ρ sz g a n l) (k : Nat) : AIn ρ sz g a (min n k) (l.take k) := by
 have := h.take (hi' := min n k) (by omega)
 rwa [show l.take (min n k) = l.take k by rw [← h.len, List.take_eq_take_min (i := k), Nat.min_comm]] at this
theorem few18_spec (ρ : Hp) (v : SV) (r : Ros) (h : RosW ρ v r) : Spec Tryz.prog 36 [.agg ⟨Yh v r⟩] ρ []
  (fun z ρ' L' => ρ.le ρ' ∧ ∃ (v' : SV) (r' : Ros), z = .agg ⟨Yh v' r'⟩ ∧ RosIn ρ' v' r' ∧ r'.p = fewRP r.p ∧ L' = []) := by
 have hl := h.at'.at'.len
 refine Zg Tryz.func36 rfl rfl rfl fun u R => ?_
 simp only [Zx, List.cons_append, List.nil_append]
 have hpt : ∀ k (hk : k < r.txns.length), (r.p.txns.take (k + 1)).map fewT = (r.p.txns.take k).map fewT ++ [fewT (r.txns[k]'hk).p] := fun k hk => by
  rw [List.take_succ_eq_append_getElem (by simp [Ros.p]; exact hk), List.map_append]
  simp [Ros.p]
 have hfin : ∀ (k : Nat) (ρ1 : Hp) (acc : List Tx) (a : Option Addr) (c : Nat), AIn ρ1 7 Ym a acc.length acc → acc.length ≤ c → acc.map Tx.p = (r.p.txns.take k).map fewT → (k = r.txns.length ∨ k = 9) → (∀ x ∈ acc, Tx.In ρ1 x) → k ≤ 9 → RosIn ρ1 ⟨a, acc.length, c⟩ ⟨r.next, acc⟩ ∧ (⟨r.next, acc⟩ : Ros).p = fewRP r.p := fun k ρ1 acc a c hA hc hm hk hin hk9 => by
  have hal : acc.length ≤ 9 := by
   have := congrArg List.length hm
   simp only [List.length_map, List.length_take] at this
   omega
  refine ⟨⟨⟨hA, by show acc.length ≤ 1000000; omega, hc⟩, hin⟩, ?_⟩
  unfold fewRP
  show (⟨r.next, acc.map Tx.p⟩ : Yr) = ⟨r.next, _⟩
  rw [hm]
  congr 2
  rcases hk with rfl | rfl
  ·rw [List.take_of_length_le (by simp [Ros.p]), List.take_of_length_le (by simp [Ros.p]; omega)]
  ·rfl
 repeat' (first | (refine ZE ?_; refine Zo (Zd rfl) rfl rfl ?_) | (refine Zj ?_; first | (refine Zf ?_; refine qQ ?_) | refine Zn ?_) | refine Zb ?_ | (refine Zi ?_; refine Zv ?_) | (refine Zh ?_; refine Zu ?_) | intro _)
 rename_i b1 b2
 refine ZB [(1, _), (2, _), (7, _), (8, _)] (fun (ζ : (Nat) × (Value) × (List Value) × (Hp) × (List Tx)) => [(9, .int .i64 ζ.1), (3, ζ.2.1)]) (fun (ζ : (Nat) × (Value) × (List Value) × (Hp) × (List Tx)) => ζ.2.2.2.1) (fun (ζ : (Nat) × (Value) × (List Value) × (Hp) × (List Tx)) => [ZK ζ.2.1 ((ζ.2.2.2.2.map Ym).flatten) ζ.2.2.1 72, [(b1, .cells ⟨Yh v r⟩ 34 (0, 0))]]) (fun (ζ : (Nat) × (Value) × (List Value) × (Hp) × (List Tx)) => ζ.1 ≤ v.n ∧ ζ.1 ≤ 9 ∧ ρ.le ζ.2.2.2.1 ∧ OwnS ζ.2.1 ζ.2.2.2.2.length ((ζ.2.2.2.2.map Ym).flatten) ζ.2.2.1 7 ∧ ζ.2.2.2.2.map Tx.p = (r.p.txns.take ζ.1).map fewT ∧ (∀ x ∈ ζ.2.2.2.2, Tx.In ζ.2.2.2.1 x)) (fun (ζ : (Nat) × (Value) × (List Value) × (Hp) × (List Tx)) => v.n - ζ.1) ((0, .slice none 0 0, [], ρ, [])) (⟨Nat.zero_le _, Nat.zero_le _, Hp.le_refl _, OwnS.nil 7, by simp, by simp⟩) Zm Zm rfl tk ?_
 rintro ⟨k, vv, sp, ρ1, acc⟩ hI
 try simp only [List.cons_append, List.nil_append, List.append_assoc, List.append_eq] at hI ⊢
 try dsimp only at hI ⊢
 obtain ⟨hk, hk9, hle1, hown, hmp, hac⟩ := hI
 have hal : acc.length ≤ 9 := by
  have := congrArg List.length hmp
  simp only [List.length_map, List.length_take] at this
  omega
 obtain ⟨va, vc, rfl, _⟩ := hown.slice
 by_cases hlt : k < v.n
 ·obtain ⟨b, off, C, T, fr, e1, hb, hfit, hc⟩ := (h.at'.at'.mono hle1).get (show k < r.txns.length by omega)
  have hx2 := hpt k (by omega)
  have hin := (h.tx _ (List.getElem_mem (show k < r.txns.length by omega))).mono hle1
  generalize r.txns[k]'(by omega) = x at *
  rw [e1]
  by_cases h8 : k = 9
  ·subst h8
   repeat' (first | (refine ZE ?_; refine Zo (Zd rfl) rfl rfl ?_) | (refine Zj ?_; first | (refine Zf ?_; refine qQ ?_) | refine Zn ?_) | refine Zb ?_ | (refine Zi ?_; refine Zv ?_) | (refine Zh ?_; refine Zu ?_) | intro _)
   refine Yk (ZK (.slice va acc.length vc) ((acc.map Ym).flatten) sp 72) (fun ρ3 hle3 hfz => ?_)
   obtain ⟨sa, sc, f1, hsc, hA2⟩ := hown.aIn rfl (fun x _ => Wy x) hfz
   cases f1
   obtain ⟨q1, q2⟩ := hfin 9 ρ3 acc va vc hA2 hsc hmp (.inr rfl) (fun y hy => (hac y hy).mono hle3) (by omega)
   exact qE (L' := []) (hle := Hp.le_trans hle1 hle3) ⟨Hp.le_trans hle1 hle3, ⟨va, acc.length, vc⟩, ⟨r.next, acc⟩, rfl, q1, q2, rfl⟩
  ·have hS := aIn_take hin.s 60
   have hM := sIn_take hin.m 9
   have hSl := hS.len
   have hMl := hM.len
   have hm60 : (min (x.sv.n : Int) 60).toNat = min x.sv.n 60 := by omega
   have hm9 : (min (x.mv.n : Int) 9).toNat = min x.mv.n 9 := by omega
   have hxsc := hin.sc
   have hxmc := hin.mc
   have hpx : ∀ a1 c1 a2 c2, ({ x with stack := x.stack.take 60, marks := x.marks.take 9, sv := ⟨a1, min x.sv.n 60, c1⟩, mv := ⟨a2, min x.mv.n 9, c2⟩ } : Tx).p = fewT x.p := fun _ _ _ _ => rfl
   generalize hSS : x.stack.take 60 = SS at *
   generalize hMM : x.marks.take 9 = MM at *
   repeat' (first | (refine ZE ?_; refine Zo (Zd rfl) rfl rfl ?_) | (refine Zj ?_; first | (refine Zf ?_; refine qQ ?_) | refine Zn ?_) | refine Zb ?_ | (refine Zi ?_; refine Zv ?_) | (refine Zh ?_; refine Zu ?_) | intro _)
   rename_i b5
   refine Wc 19 (Zs _ _ ([[(b5, .cells ⟨Ym x⟩ 72 (0, 0))]])) (by decide +kernel) (Zz (hT := tk) (Hp.le_refl _)) ?_
   simp only [List.take_succ_cons, List.take_zero]
   all_goals (refine ZS 1 ?_; refine ZX 2 ?_; refine ZS 3 ?_; refine ZX 4 ?_; refine rBi 5 ?_; refine rBi 6 ?_; refine rSl 7 ?_; refine ZS 10 ?_; refine ZX 11 ?_; refine ZS 12 ?_; refine ZX 13 ?_; refine rBi 14 ?_; refine rBi 15 ?_; refine rSl 16 ?_)
   all_goals (refine Ye (i := 0) (j := 9) ?_ ?_ <;> ((try refine Zk ?_); (first | (refine Zn ?_; try intro _)) <;> ((try simp only [kM, kN, kO]); refine Zb ?_; refine Zl ?_)))
   all_goals (first | (refine Ye (i := 8) (j := 9) ?_ ?_ <;> ((try refine Zk ?_); (first | (simp only [hm60]; refine ZV (n := 0) (xs := []) (sp := []) (ys := (SS.map lfV).flatten) (m := min x.sv.n 60) (sz := 2) rfl rfl (OwnS.zero _ 2) (hR := by repeat (first | exact ZH | apply ZG)) hS.srcV (by rw [YX WA, hSl]) (XV (fun _ => rfl) _) (by decide) rfl (by omega) (by omega) rfl (fun v1 sp1 o1 => ?_); simp only [Nat.zero_add, List.nil_append] at o1 ⊢; obtain ⟨a1, c1, rfl, q1⟩ := o1.slice) | (simp only [hm9]; refine ZV (n := 0) (xs := []) (sp := []) (ys := MM.map ZU) (m := min x.mv.n 9) (sz := 1) rfl rfl (OwnS.zero _ 1) (hR := by repeat (first | exact ZH | apply ZG)) hM.srcV (by rw [List.length_map, hMl]; omega) (by simp [Value.oneCell']) (by decide) rfl (by omega) (by omega) rfl (fun v2 sp2 o2 => ?_); simp only [Nat.zero_add, List.nil_append] at o2 ⊢; obtain ⟨a2, c2, rfl, q2⟩ := o2.slice) | (refine Zn ?_; try intro _)) <;> ((try simp only [kM, kN, kO]); refine Zb ?_; refine Zl ?_))) | (refine Zp (i := 0) ?_; ((try refine Zk ?_); (first | (refine Zn ?_; try intro _)) <;> ((try simp only [kM, kN, kO]); refine Zb ?_; refine Zl ?_))))
   all_goals (first | refine ZS 18 ?_ | (refine Zp (i := 8) ?_; ((try refine Zk ?_); (first | (simp only [hm60]; refine ZV (n := 0) (xs := []) (sp := []) (ys := (SS.map lfV).flatten) (m := min x.sv.n 60) (sz := 2) rfl rfl (OwnS.zero _ 2) (hR := by repeat (first | exact ZH | apply ZG)) hS.srcV (by rw [YX WA, hSl]) (XV (fun _ => rfl) _) (by decide) rfl (by omega) (by omega) rfl (fun v1 sp1 o1 => ?_); simp only [Nat.zero_add, List.nil_append] at o1 ⊢; obtain ⟨a1, c1, rfl, q1⟩ := o1.slice) | (simp only [hm9]; refine ZV (n := 0) (xs := []) (sp := []) (ys := MM.map ZU) (m := min x.mv.n 9) (sz := 1) rfl rfl (OwnS.zero _ 1) (hR := by repeat (first | exact ZH | apply ZG)) hM.srcV (by rw [List.length_map, hMl]; omega) (by simp [Value.oneCell']) (by decide) rfl (by omega) (by omega) rfl (fun v2 sp2 o2 => ?_); simp only [Nat.zero_add, List.nil_append] at o2 ⊢; obtain ⟨a2, c2, rfl, q2⟩ := o2.slice) | (refine Zn ?_; try intro _)) <;> ((try simp only [kM, kN, kO]); refine Zb ?_; refine Zl ?_))))
   all_goals (first | refine ZS 18 ?_ | (refine Zp (i := 9) ?_; ((try refine Zk ?_); (first | (refine Zn ?_; try intro _)) <;> ((try simp only [kM, kN, kO]); refine Zb ?_; refine Zl ?_))))
   all_goals (refine Zp (i := 17) ?_; ((try refine Zk ?_); (first | (simp only [hm60]; refine ZV (n := 0) (xs := []) (sp := []) (ys := (SS.map lfV).flatten) (m := min x.sv.n 60) (sz := 2) rfl rfl (OwnS.zero _ 2) (hR := by repeat (first | exact ZH | apply ZG)) hS.srcV (by rw [YX WA, hSl]) (XV (fun _ => rfl) _) (by decide) rfl (by omega) (by omega) rfl (fun v1 sp1 o1 => ?_); simp only [Nat.zero_add, List.nil_append] at o1 ⊢; obtain ⟨a1, c1, rfl, q1⟩ := o1.slice) | (simp only [hm9]; refine ZV (n := 0) (xs := []) (sp := []) (ys := MM.map ZU) (m := min x.mv.n 9) (sz := 1) rfl rfl (OwnS.zero _ 1) (hR := by repeat (first | exact ZH | apply ZG)) hM.srcV (by rw [List.length_map, hMl]; omega) (by simp [Value.oneCell']) (by decide) rfl (by omega) (by omega) rfl (fun v2 sp2 o2 => ?_); simp only [Nat.zero_add, List.nil_append] at o2 ⊢; obtain ⟨a2, c2, rfl, q2⟩ := o2.slice) | (refine Zn ?_; try intro _)) <;> ((try simp only [kM, kN, kO]); refine Zb ?_; refine Zl ?_)))
   all_goals refine ZI ?_
   all_goals refine Wb (fuel := 3) (m := [true, true, true, true, true, true, true, true, true, true, true, true, true, true, true, true, true, true, true, false, false, false]) (Zs _ _ ([])) rfl rfl (Zz (hT := tk) (Hp.le_refl _)) ?_
   all_goals (refine Zp (i := 19) ?_; ((try refine Zk ?_); (first | (refine Zn ?_; try intro _)) <;> ((try simp only [kM, kN, kO]); refine Zb ?_; refine Zl ?_)))
   all_goals refine ZS 20 ?_
   all_goals (refine Zp (i := 21) ?_; ((try refine Zk ?_); (first | (refine Zn ?_; try intro _)) <;> ((try simp only [kM, kN, kO]); refine Zb ?_; refine Zl ?_)))
   all_goals refine ZI ?_
   all_goals (
    refine Yk (ZK (.slice a1 (min x.sv.n 60) c1) ((SS.map lfV).flatten) sp1 74) (h := by repeat (first | exact ZH | apply ZG)) (fun ρ4 hle4 hf4 => ?_)
    refine Yk (ZK (.slice a2 (min x.mv.n 9) c2) (MM.map ZU) sp2 24) (h := by repeat (first | exact ZH | apply ZG)) (fun ρ5 hle5 hf5 => ?_)
    rw [← hSl] at o1
    rw [← hMl] at o2
    have hx' : Tx.In ρ5 { x with stack := SS, marks := MM, sv := ⟨a1, SS.length, c1⟩, mv := ⟨a2, MM.length, c2⟩ } := OwnX.tin ⟨o1, o2⟩ (fun p hp => Hp.up hle5 (hf4 p (by rw [← hSl]; exact hp))) (fun p hp => hf5 p (by rw [← hMl]; exact hp)) (by dsimp only; omega) (by dsimp only; omega)
    have hp' := hpx a1 c1 a2 c2
    rw [← hSl, ← hMl] at hp'
    rw [← hSl, ← hMl]
    clear hf4 hf5
    generalize hy : ({ x with stack := SS, marks := MM, sv := ⟨a1, SS.length, c1⟩, mv := ⟨a2, MM.length, c2⟩ } : Tx) = y at *
    have hyV : [Value.int .i64 x.num, .int .i64 x.state, .int .u64 x.first, .int .u64 x.last, .int .u64 x.undo, .slice a1 SS.length c1, .slice a2 MM.length c2] = Ym y := by rw [← hy]
    rw [hyV])
   all_goals (repeat' (first | (refine ZL (css := [Ym y]) (sz := 7) rfl rfl rfl rfl (by simp) (by simp) rfl (fun bs => ?_); simp only [List.flatten_cons, List.flatten_nil, List.append_nil]) | (refine ZV (ys := Ym y) (m := 1) rfl rfl hown (hR := by repeat (first | exact ZH | apply ZG)) SrcV.lit rfl rfl (by decide) rfl (by omega) (by omega) rfl (fun v3 sp3 hown3 => ?_)) | (refine ZE ?_; refine Zo (Zd rfl) rfl rfl ?_) | (refine Zj ?_; first | (refine Zf ?_; refine qQ ?_) | refine Zn ?_) | refine Zb ?_ | (refine Zi ?_; refine Zv ?_) | (refine Zh ?_; refine Zu ?_) | intro _))
   all_goals (
    have hm : (acc.map Ym).flatten ++ Ym y = ((acc ++ [y]).map Ym).flatten := by simp
    rw [hm] at hown3 ⊢
    have hmp2 : (acc ++ [y]).map Tx.p = (r.p.txns.take (k + 1)).map fewT := by rw [List.map_append, hmp, hx2, ← hp']; rfl
    have hac2 : ∀ z ∈ acc ++ [y], Tx.In ρ5 z := fun z hz => by
     rcases List.mem_append.1 hz with hz | hz
     ·exact ((hac z hz).mono hle4).mono hle5
     ·rw [List.mem_singleton.1 hz]; exact hx'
    rw [← e1])
   all_goals refine Zq (k + 1, v3, sp3, ρ5, acc ++ [y]) (⟨hlt, by dsimp only; omega, Hp.le_trans hle1 (Hp.le_trans hle4 hle5), by rw [List.length_append]; exact hown3, hmp2, hac2⟩) Zm Zm rfl tk inferInstance (by first | omega | (dsimp only; omega))
 ·have hkn : k = r.txns.length := by omega
  repeat' (first | (refine ZE ?_; refine Zo (Zd rfl) rfl rfl ?_) | (refine Zj ?_; first | (refine Zf ?_; refine qQ ?_) | refine Zn ?_) | refine Zb ?_ | (refine Zi ?_; refine Zv ?_) | (refine Zh ?_; refine Zu ?_) | intro _)
  refine Yk (ZK (.slice va acc.length vc) ((acc.map Ym).flatten) sp 72) (fun ρ3 hle3 hfz => ?_)
  obtain ⟨sa, sc, f1, hsc, hA2⟩ := hown.aIn rfl (fun x _ => Wy x) hfz
  cases f1
  obtain ⟨q1, q2⟩ := hfin k ρ3 acc va vc hA2 hsc hmp (.inl hkn) (fun y hy => (hac y hy).mono hle3) hk9
  exact qE (L' := []) (hle := Hp.le_trans hle1 hle3) ⟨Hp.le_trans hle1 hle3, ⟨va, acc.length, vc⟩, ⟨r.next, acc⟩, rfl, q1, q2, rfl⟩
theorem findT_take (l : List TxP) (num : Int) (k : Nat) (h : k < l.length) (hn : ∀ t ∈ l.take k, t.num ≠ num) : (l[k].num = num → l.find? (fun t => decide (t.num = num)) = some l[k]) ∧ (l[k].num ≠ num → ∀ t ∈ l.take (k + 1), t.num ≠ num) := by
 constructor
 ·intro e
  rw [List.find?_eq_some_iff_getElem]
  refine ⟨by simpa using e, k, h, rfl, fun j hj => ?_⟩
  have := hn l[j] (List.mem_take_iff_getElem.2 ⟨j, by omega, rfl⟩)
  simpa using this
 ·intro e t ht
  rw [List.take_succ_eq_append_getElem h] at ht
  rcases List.mem_append.1 ht with ht | ht
  ·exact hn t ht
  ·rw [List.mem_singleton.1 ht]; exact e
theorem find18_spec (ρ : Hp) (v : SV) (ro : Ros) (h : RosIn ρ v ro) (num : Int) : Spec Tryz.prog 53 [.agg ⟨Yh v ro⟩, .int .i64 num] ρ []
  (fun z ρ' L' => ρ' = ρ ∧ ∃ x b, z = .tuple ⟨[.agg ⟨Ym x⟩, .bool b]⟩ ∧ Tx.In ρ' x ∧ FindR (Yf ro.p num) x b ∧ L' = []) := by
 have hl := h.at'.at'.len
 have hA := h.at'.at'
 have hbig := h.at'.big
 refine Zg Tryz.func53 rfl rfl rfl fun u R => ?_
 simp only [Zx, List.cons_append, List.nil_append]
 repeat' (first | (refine ZE ?_; refine Zo (Zd rfl) rfl rfl ?_) | (refine Zj ?_; first | (refine Zf ?_; refine qQ ?_) | refine Zn ?_) | refine Zb ?_ | (refine Zi ?_; refine Zv ?_) | (refine Zh ?_; refine Zu ?_) | intro _)
 refine ZB [(1, _), (4, _), (9, _), (10, _)] (fun (ζ : (Nat)) => [(11, .int .i64 ζ), (5, .bool false)]) (fun (ζ : (Nat)) => ρ) (fun (ζ : (Nat)) => [[(_, .cells ⟨Ym zX⟩ 72 (0, 0))]]) (fun (ζ : (Nat)) => ζ ≤ v.n ∧ ∀ t ∈ ro.p.txns.take ζ, t.num ≠ num) (fun (ζ : (Nat)) => v.n - ζ) (0) (⟨Nat.zero_le _, by simp⟩) Zm Zm rfl tk ?_
 rintro k hI
 try simp only [List.cons_append, List.nil_append, List.append_assoc, List.append_eq] at hI ⊢
 try dsimp only at hI ⊢
 obtain ⟨hk, hno⟩ := hI
 by_cases hlt : k < v.n
 ·obtain ⟨b, off, C, T, fr, e1, hb, hfit, hc⟩ := hA.get (show k < ro.txns.length by omega)
  have hf := findT_take ro.p.txns num k (by simp [Ros.p]; omega) hno
  have hpk : ro.p.txns[k]'(by simp [Ros.p]; omega) = (ro.txns[k]'(by omega)).p := by simp [Ros.p]
  rw [hpk] at hf
  have hin := h.tx _ (List.getElem_mem (show k < ro.txns.length by omega))
  generalize ro.txns[k]'(by omega) = x at *
  rw [e1]
  by_cases he : x.num = num
  ·have hfs : Yf ro.p num = some x.p := hf.1 he
   rw [hfs]
   repeat' (first | (refine ZE ?_; refine Zo (Zd rfl) rfl rfl ?_) | (refine Zj ?_; first | (refine Zf ?_; refine qQ ?_) | refine Zn ?_) | refine Zb ?_ | (refine Zi ?_; refine Zv ?_) | (refine Zh ?_; refine Zu ?_) | intro _)
   exact qE (L' := []) ⟨rfl, x, true, rfl, hin, .inl ⟨_, rfl, rfl, rfl⟩, rfl⟩
  ·have hno2 := hf.2 he
   repeat' (first | (refine ZE ?_; refine Zo (Zd rfl) rfl rfl ?_) | (refine Zj ?_; first | (refine Zf ?_; refine qQ ?_) | refine Zn ?_) | refine Zb ?_ | (refine Zi ?_; refine Zv ?_) | (refine Zh ?_; refine Zu ?_) | intro _)
   rw [← e1]
   refine Zq (k + 1) (⟨hlt, hno2⟩) Zm Zm rfl tk inferInstance (by first | omega | (dsimp only; omega))
 ·have hfn : Yf ro.p num = none := by
   unfold Yf
   rw [List.find?_eq_none]
   intro t ht
   rw [List.take_of_length_le (by simp [Ros.p]; omega)] at hno
   simpa using hno t ht
  rw [hfn]
  repeat' (first | (refine ZE ?_; refine Zo (Zd rfl) rfl rfl ?_) | (refine Zj ?_; first | (refine Zf ?_; refine qQ ?_) | refine Zn ?_) | refine Zb ?_ | (refine Zi ?_; refine Zv ?_) | (refine Zh ?_; refine Zu ?_) | intro _)
  exact qE (L' := []) ⟨rfl, zX, false, rfl, zX_in _, .inr ⟨rfl, rfl, rfl⟩, rfl⟩
theorem find18_some (ρ : Hp) (v : SV) (ro : Ros) (h : RosIn ρ v ro) (num : Int) {t : TxP} (ho : Yf ro.p num = some t) : Spec Tryz.prog 53 [.agg ⟨Yh v ro⟩, .int .i64 num] ρ []
  (fun z ρ' L' => ρ' = ρ ∧ ∃ x, z = .tuple ⟨[.agg ⟨Ym x⟩, .bool true]⟩ ∧ Tx.In ρ' x ∧ x.p = t ∧ L' = []) := by
 refine (find18_spec ρ v ro h num).mono ?_
 rintro z ρ' L' _ ⟨h1, x, b, h2, h3, ⟨t', h4, h5, h6⟩ | ⟨h4, _⟩, h7⟩
 ·rw [ho] at h4
  cases h4
  exact ⟨h1, x, by rw [h2, h5], h3, h6, h7⟩
 ·rw [ho] at h4; cases h4
theorem find18_none (ρ : Hp) (v : SV) (ro : Ros) (h : RosIn ρ v ro) (num : Int) (ho : Yf ro.p num = none) : Spec Tryz.prog 53 [.agg ⟨Yh v ro⟩, .int .i64 num] ρ []
  (fun z ρ' L' => ρ' = ρ ∧ z = .tuple ⟨[.agg ⟨Ym zX⟩, .bool false]⟩ ∧ L' = []) := by
 refine (find18_spec ρ v ro h num).mono ?_
 rintro z ρ' L' _ ⟨h1, x, b, h2, h3, ⟨t', h4, h5, h6⟩ | ⟨h4, h5, h6⟩, h7⟩
 ·rw [ho] at h4; cases h4
 ·exact ⟨h1, by rw [h2, h5, h6], h7⟩
theorem live18_some (ρ : Hp) (v : SV) (ro : Ros) (h : RosIn ρ v ro) (num : Int) {t : TxP} (ho : Yf ro.p num = some t) : Spec Tryz.prog 136 [.agg ⟨Yh v ro⟩, .int .i64 num] ρ []
  (fun z ρ' L' => ρ' = ρ ∧ ∃ x, z = .tuple ⟨[.agg ⟨Ym x⟩, .int .i64 (if t.state = 1 then 0 else 2)]⟩ ∧ Tx.In ρ' x ∧ x.p = t ∧ L' = []) := by
 have hf := find18_some ρ v ro h num ho
 refine Zg Tryz.func136 rfl rfl rfl fun u R => ?_
 simp only [Zx, List.cons_append, List.nil_append]
 by_cases hs : t.state = 1
 ·simp only [if_pos hs]
  repeat' (first | (refine Ze (.func 53) ?_; refine qC rfl rfl (hf) ?_; rintro v ρ' L' hle ⟨rfl, x, rfl, hx, hp, rfl⟩ <;> (try simp only [kM, kN, kO]); have hst : x.state = t.state := congrArg TxP.state hp) | (refine ZE ?_; refine Zo (Zd rfl) rfl rfl ?_) | (refine Zj ?_; first | (refine Zf ?_; refine qQ ?_) | refine Zn ?_) | refine Zb ?_ | (refine Zi ?_; refine Zv ?_) | (refine Zh ?_; refine Zu ?_) | intro _)
  exact qE (L' := []) ⟨rfl, x, rfl, hx, hp, rfl⟩
 ·simp only [if_neg hs]
  repeat' (first | (refine Ze (.func 53) ?_; refine qC rfl rfl (hf) ?_; rintro v ρ' L' hle ⟨rfl, x, rfl, hx, hp, rfl⟩ <;> (try simp only [kM, kN, kO]); have hst : x.state = t.state := congrArg TxP.state hp) | (refine ZE ?_; refine Zo (Zd rfl) rfl rfl ?_) | (refine Zj ?_; first | (refine Zf ?_; refine qQ ?_) | refine Zn ?_) | refine Zb ?_ | (refine Zi ?_; refine Zv ?_) | (refine Zh ?_; refine Zu ?_) | intro _)
  exact qE (L' := []) ⟨rfl, x, rfl, hx, hp, rfl⟩
theorem live18_none (ρ : Hp) (v : SV) (ro : Ros) (h : RosIn ρ v ro) (num : Int) (ho : Yf ro.p num = none) : Spec Tryz.prog 136 [.agg ⟨Yh v ro⟩, .int .i64 num] ρ []
  (fun z ρ' L' => ρ' = ρ ∧ z = .tuple ⟨[.agg ⟨Ym zX⟩, .int .i64 4]⟩ ∧ L' = []) := by
 have hf := find18_none ρ v ro h num ho
 refine Zg Tryz.func136 rfl rfl rfl fun u R => ?_
 simp only [Zx, List.cons_append, List.nil_append]
 repeat' (first | (refine Ze (.func 53) ?_; refine qC rfl rfl (hf) ?_; rintro v ρ' L' hle ⟨rfl, rfl, rfl⟩ <;> (try simp only [kM, kN, kO])) | (refine ZE ?_; refine Zo (Zd rfl) rfl rfl ?_) | (refine Zj ?_; first | (refine Zf ?_; refine qQ ?_) | refine Zn ?_) | refine Zb ?_ | (refine Zi ?_; refine Zv ?_) | (refine Zh ?_; refine Zu ?_) | intro _)
 exact qE (L' := []) ⟨rfl, rfl, rfl⟩
theorem where18_spec (ρ : Hp) (v : SV) (ro : Ros) (h : RosIn ρ v ro) (num n : Int) (hn : i64in n) : Spec Tryz.prog 56 [.agg ⟨Yh v ro⟩, .int .i64 num, .int .i64 n] ρ []
  (fun z ρ' L' => z = .tuple ⟨[.int .u64 (if WJ (XF n) (Yf ro.p num) = 0 then whereV ro.p num n else 0 : Nat), .int .i64 (WJ (XF n) (Yf ro.p num))]⟩ ∧ ρ' = ρ ∧ L' = []) := by
 unfold whereV
 refine Zg Tryz.func56 rfl rfl rfl fun u R => ?_
 simp only [Zx, List.cons_append, List.nil_append]
 cases ho : Yf ro.p num with
 | none =>
  have hf := live18_none ρ v ro h num ho
  dsimp only [WJ]
  repeat' (first | (refine Ze (.func 136) ?_; refine qC rfl rfl (hf) ?_; rintro v ρ' L' hle ⟨rfl, rfl, rfl⟩ <;> (try simp only [kM, kN, kO])) | (refine ZE ?_; refine Zo (Zd rfl) rfl rfl ?_) | (refine Zj ?_; first | (refine Zf ?_; refine qQ ?_) | refine Zn ?_) | refine Zb ?_ | (refine Zi ?_; refine Zv ?_) | (refine Zh ?_; refine Zu ?_) | intro _)
  exact qE (L' := []) ⟨rfl, rfl, rfl⟩
 | some t =>
  have hf := live18_some ρ v ro h num ho
  dsimp only [WJ]
  by_cases hs : t.state = 1
  ·simp only [if_pos hs] at hf ⊢
   by_cases h1 : n < 1 ∨ (t.marks.length : Int) < n
   ·have hw : XF n t = 4 := if_pos h1
    rw [hw]
    by_cases h2 : n < 1
    ·repeat' (first | (refine Ze (.func 136) ?_; refine qC rfl rfl (hf) ?_; rintro v ρ' L' hle ⟨rfl, x, rfl, hx, hp, rfl⟩ <;> (try simp only [kM, kN, kO])) | (refine ZE ?_; refine Zo (Zd rfl) rfl rfl ?_) | (refine Zj ?_; first | (refine Zf ?_; refine qQ ?_) | refine Zn ?_) | refine Zb ?_ | (refine Zi ?_; refine Zv ?_) | (refine Zh ?_; refine Zu ?_) | intro _)
     exact qE (L' := []) ⟨rfl, rfl, rfl⟩
    ·have h3 : (t.marks.length : Int) < n := by omega
     repeat' (first | (refine Ze (.func 136) ?_; refine qC rfl rfl (hf) ?_; rintro v ρ' L' hle ⟨rfl, x, rfl, hx, hp, rfl⟩ <;> (try simp only [kM, kN, kO]); have hml : t.marks.length = x.mv.n := (by rw [← hp]; exact hx.m.len)) | (refine ZE ?_; refine Zo (Zd rfl) rfl rfl ?_) | (refine Zj ?_; first | (refine Zf ?_; refine qQ ?_) | refine Zn ?_) | refine Zb ?_ | (refine Zi ?_; refine Zv ?_) | (refine Zh ?_; refine Zu ?_) | intro _)
     exact qE (L' := []) ⟨rfl, rfl, rfl⟩
   ·have hw : XF n t = 0 := if_neg h1
    rw [hw]
    simp only [if_true]
    repeat' (first | (refine Ze (.func 136) ?_; refine qC rfl rfl (hf) ?_; rintro v ρ' L' hle ⟨rfl, x, rfl, hx, hp, rfl⟩ <;> (try simp only [kM, kN, kO]); have hml : t.marks.length = x.mv.n := (by rw [← hp]; exact hx.m.len)) | (refine ZE ?_; refine Zo (Zd rfl) rfl rfl ?_) | (refine Zj ?_; first | (refine Zf ?_; refine qQ ?_) | refine Zn ?_) | refine Zb ?_ | (refine Zi ?_; refine Zv ?_) | (refine Zh ?_; refine Zu ?_) | intro _)
    have hlx := hx.m.len
    obtain ⟨b, off, C, T, fr, e1, hb, hcm⟩ := hx.m.get (show (n - 1).toNat < x.marks.length by omega)
    have hwN : whereN n t = x.marks[(n - 1).toNat]'(by omega) := by
     unfold whereN
     subst hp
     exact YW (l := x.marks) (by omega)
    rw [hwN]
    generalize x.marks[(n - 1).toNat]'(by omega) = y at *
    rw [e1]
    repeat' (first | (refine ZE ?_; refine Zo (Zd rfl) rfl rfl ?_) | (refine Zj ?_; first | (refine Zf ?_; refine qQ ?_) | refine Zn ?_) | refine Zb ?_ | (refine Zi ?_; refine Zv ?_) | (refine Zh ?_; refine Zu ?_) | intro _)
    exact qE (L' := []) ⟨rfl, rfl, rfl⟩
  ·simp only [if_neg hs] at hf ⊢
   repeat' (first | (refine Ze (.func 136) ?_; refine qC rfl rfl (hf) ?_; rintro v ρ' L' hle ⟨rfl, x, rfl, hx, hp, rfl⟩ <;> (try simp only [kM, kN, kO])) | (refine ZE ?_; refine Zo (Zd rfl) rfl rfl ?_) | (refine Zj ?_; first | (refine Zf ?_; refine qQ ?_) | refine Zn ?_) | refine Zb ?_ | (refine Zi ?_; refine Zv ?_) | (refine Zh ?_; refine Zu ?_) | intro _)
   exact qE (L' := []) ⟨rfl, rfl, rfl⟩
theorem over18_spec (ρ : Hp) (v : RV) (r : Rc) (h : RcW ρ v r) : Spec Tryz.prog 37 [.agg ⟨Xh v r⟩] ρ [] (fun z ρ' L' => z = .bool (overB r) ∧ ρ' = ρ ∧ L' = []) := by
 have li := h.i.at'.len
 have ls := h.s.at'.len
 have lt := h.t.at'.len
 have ld := h.d.at'.len
 unfold overB
 refine Zg Tryz.func37 rfl rfl rfl fun u R => ?_
 simp only [Zx, List.cons_append, List.nil_append]
 by_cases hb : 17 < r.ims.length ∨ 3 < r.steps.length ∨ 9 < r.txns.length ∨ 65 < r.dirty.length
 ·rw [decide_eq_true hb, Bool.true_or]
  repeat' (first | (refine ZE ?_; refine Zo (Zd rfl) rfl rfl ?_) | (refine Zj ?_; first | (refine Zf ?_; refine qQ ?_) | refine Zn ?_) | refine Zb ?_ | (refine Zi ?_; refine Zv ?_) | (refine Zh ?_; refine Zu ?_) | (refine Xd ?_; refine ZN rfl rfl (fun hb => ?_) (fun hb => ?_) <;> (try simp only [decide_eq_true_eq, decide_eq_false_iff_not, Bool.not_eq_true, Bool.not_eq_false, beq_iff_eq, bne_iff_ne, ne_eq, decide_eq_decide, Bool.not_eq_eq_eq_not, Bool.not_true, Bool.not_false, beq_eq_false_iff_ne, bne_eq_false_iff_eq, Bool.and_eq_true, Bool.or_eq_true, Bool.and_eq_false_imp, Bool.or_eq_false_iff, bq2, bqt, bqf] at hb)) | (refine Yn ?_; refine Ya rfl (fun hb => ?_) (fun hb => ?_) <;> (try simp only [decide_eq_true_eq, decide_eq_false_iff_not, Bool.not_eq_true, Bool.not_eq_false, beq_iff_eq, bne_iff_ne, ne_eq, decide_eq_decide, Bool.not_eq_eq_eq_not, Bool.not_true, Bool.not_false, beq_eq_false_iff_ne, bne_eq_false_iff_eq, Bool.and_eq_true, Bool.or_eq_true, Bool.and_eq_false_imp, Bool.or_eq_false_iff, bq2, bqt, bqf] at hb)) | intro _)
  all_goals first | exact qE (L' := []) ⟨rfl, rfl, rfl⟩ | (exfalso; omega)
 ·rw [decide_eq_false hb, Bool.false_or]
  have hA := h.i.at'
  generalize hq : r.ims.any (fun x => decide (30 < imN x)) = q
  repeat' (first | (refine ZE ?_; refine Zo (Zd rfl) rfl rfl ?_) | (refine Zj ?_; first | (refine Zf ?_; refine qQ ?_) | refine Zn ?_) | refine Zb ?_ | (refine Zi ?_; refine Zv ?_) | (refine Zh ?_; refine Zu ?_) | intro _)
  refine ZB [(28, _), (29, _)] (fun (ζ : (Nat)) => [(30, .int .i64 ζ), (2, .bool false)]) (fun (ζ : (Nat)) => ρ) (fun (ζ : (Nat)) => []) (fun (ζ : (Nat)) => ζ ≤ v.i.n ∧ (r.ims.drop ζ).any (fun x => decide (30 < imN x)) = q) (fun (ζ : (Nat)) => v.i.n - ζ) (0) (⟨Nat.zero_le _, hq⟩) Zm Zm rfl tk ?_
  rintro k hI
  try simp only [List.cons_append, List.nil_append, List.append_assoc, List.append_eq] at hI ⊢
  try dsimp only at hI ⊢
  obtain ⟨hk, hok⟩ := hI
  by_cases hlt : k < v.i.n
  ·obtain ⟨b, off, C, T, fr, e1, hb1, hfit, hc⟩ := hA.get (show k < r.ims.length by omega)
   have hmem := List.getElem_mem (show k < r.ims.length by omega)
   rw [List.drop_eq_getElem_cons (show k < r.ims.length by omega), List.any_cons] at hok
   generalize r.ims[k]'(by omega) = x at *
   obtain ⟨hxb, hxa⟩ := h.im x hmem
   have f1 := hxb.r.len
   have f2 := hxb.k.len
   have f3 := hxa.r.len
   have f4 := hxa.k.len
   have g1 := hxb.rb
   have g2 := hxb.kb
   have g3 := hxa.rb
   have g4 := hxa.kb
   rw [e1]
   by_cases hx : 30 < imN x
   ·rw [decide_eq_true hx, Bool.true_or] at hok
    subst hok
    unfold imN at hx
    repeat' (first | (refine ZE ?_; refine Zo (Zd rfl) rfl rfl ?_) | (refine Zj ?_; first | (refine Zf ?_; refine qQ ?_) | refine Zn ?_) | refine Zb ?_ | (refine Zi ?_; refine Zv ?_) | (refine Zh ?_; refine Zu ?_) | intro _)
    exact qE (L' := []) ⟨rfl, rfl, rfl⟩
   ·rw [decide_eq_false hx, Bool.false_or] at hok
    unfold imN at hx
    repeat' (first | (refine ZE ?_; refine Zo (Zd rfl) rfl rfl ?_) | (refine Zj ?_; first | (refine Zf ?_; refine qQ ?_) | refine Zn ?_) | refine Zb ?_ | (refine Zi ?_; refine Zv ?_) | (refine Zh ?_; refine Zu ?_) | intro _)
    rw [← e1]
    refine Zq (k + 1) (⟨hlt, hok⟩) Zm Zm rfl tk inferInstance (by first | omega | (dsimp only; omega))
  ·have hk2 : k = r.ims.length := by omega
   rw [hk2, List.drop_length, List.any_nil] at hok
   subst hok
   repeat' (first | (refine ZE ?_; refine Zo (Zd rfl) rfl rfl ?_) | (refine Zj ?_; first | (refine Zf ?_; refine qQ ?_) | refine Zn ?_) | refine Zb ?_ | (refine Zi ?_; refine Zv ?_) | (refine Zh ?_; refine Zu ?_) | intro _)
   exact qE (L' := []) ⟨rfl, rfl, rfl⟩
structure OpD where
 kind : Int
 num : Int
 n : Int
 at' : Int
 near : Bool
 rv : RV
 rc : Rc
abbrev opV (o : OpD) : List Value := [.int .i64 o.kind, .int .i64 o.num, .int .i64 o.n, .int .i64 o.at', .bool o.near, .int .i64 o.rc.kind, .int .u64 o.rc.lsn, .int .i64 o.rc.txn, .int .u64 o.rc.prev, .int .u64 o.rc.next, .slice o.rv.i.a o.rv.i.n o.rv.i.c, .slice o.rv.s.a o.rv.s.n o.rv.s.c, .int .i64 o.rc.nextTxn, .slice o.rv.t.a o.rv.t.n o.rv.t.c, .slice o.rv.d.a o.rv.d.n o.rv.d.c]
def idxU (a : Int) (n : Nat) : Nat := ((IntKind.u64.wrap a).tmod (n : Int)).toNat
theorem idxU_lt (a : Int) {n : Nat} (h : 0 < n) : idxU a n < n ∧ 0 ≤ (IntKind.u64.wrap a).tmod (n : Int) ∧ (IntKind.u64.wrap a).tmod (n : Int) < (n : Int) := by
 have h1 : 0 ≤ IntKind.u64.wrap a := by
  have h : IntKind.u64.wrap a = a % 18446744073709551616 := rfl
  omega
 have h2 : (IntKind.u64.wrap a).tmod (n : Int) = (IntKind.u64.wrap a) % (n : Int) := Int.tmod_eq_emod_of_nonneg h1
 have h3 := Int.emod_nonneg (IntKind.u64.wrap a) (show (n : Int) ≠ 0 by omega)
 have h4 := Int.emod_lt_of_pos (IntKind.u64.wrap a) (show (0 : Int) < (n : Int) by omega)
 unfold idxU
 omega
def zP : TxP := ⟨0, 0, 0, 0, 0, [], []⟩
def WQ (p : Yr) (a : Int) : TxP := p.txns.getD (idxU a p.txns.length) zP
def opN (o : OpD) (p : Yr) : Int := if 0 < p.txns.length ∧ o.near = true then (WQ p o.at').num else o.num
theorem nth_cell {ρ : Hp} {v : SV} {ro : Ros} (h : RosIn ρ v ro) (a : Int) (h0 : 0 < v.n) : ∃ b off C T fr x, v.a = some ⟨b, off, none⟩ ∧ ρ b = some (.cells ⟨C⟩ T fr) ∧ off + ((IntKind.u64.wrap a).tmod (v.n : Int)).toNat * 7 + 7 ≤ C.length ∧ (C.drop (off + ((IntKind.u64.wrap a).tmod (v.n : Int)).toNat * 7)).take 7 = Ym x ∧ Tx.In ρ x ∧ x.p = WQ ro.p a ∧ WQ ro.p a ∈ ro.p.txns := by
 have hl := h.at'.at'.len
 have hi := (idxU_lt a h0).1
 obtain ⟨b, off, C, T, fr, e1, hb, hfit, hc⟩ := h.at'.at'.get (show idxU a v.n < ro.txns.length by omega)
 have hpl : ro.p.txns.length = v.n := by simp [Ros.p, hl]
 have hn : WQ ro.p a = (ro.txns[idxU a v.n]'(by omega)).p := by
  unfold WQ
  rw [hpl, YW (by omega)]
  simp [Ros.p]
 refine ⟨b, off, C, T, fr, _, e1, hb, hfit, hc, h.tx _ (List.getElem_mem (show idxU a v.n < ro.txns.length by omega)), hn.symm, ?_⟩
 rw [hn]
 exact List.mem_map.2 ⟨_, List.getElem_mem _, rfl⟩
theorem cell_at {C : List Value} {i sz : Nat} {l : List Value} (h : (C.drop i).take sz = l) {d : Nat} {v : Value} (hd : l[d]? = some v) : C[i + d]? = some v := by
 have h1 : d < sz := by
  have := (List.getElem?_eq_some_iff.1 hd).1
  rw [← h, List.length_take] at this
  omega
 rw [← h, List.getElem?_take_of_lt h1, List.getElem?_drop] at hd
 exact hd
theorem onum_spec (ρ : Hp) (o : OpD) (v : SV) (ro : Ros) (h : RosIn ρ v ro) : Spec Tryz.prog 117 [.agg ⟨opV o⟩, .agg ⟨Yh v ro⟩] ρ [] (fun z ρ' L' => z = .int .i64 (opN o ro.p) ∧ ρ' = ρ ∧ L' = []) := by
 have hl := h.at'.at'.len
 have hbig := h.at'.big
 have hpl : ro.p.txns.length = v.n := by simp [Ros.p, hl]
 unfold opN
 rw [hpl]
 obtain ⟨kd, num, n, a', near, rv, rc⟩ := o
 dsimp only
 refine Zg Tryz.func117 rfl rfl rfl fun u R => ?_
 simp only [Zx, List.cons_append, List.nil_append]
 by_cases h0 : 0 < v.n
 ·cases near
  ·rw [if_neg (by simp)]
   repeat' (first | (refine ZE ?_; refine Zo (Zd rfl) rfl rfl ?_) | (refine Zj ?_; first | (refine Zf ?_; refine qQ ?_) | refine Zn ?_) | refine Zb ?_ | (refine Zi ?_; refine Zv ?_) | (refine Zh ?_; refine Zu ?_) | intro _)
   exact qE (L' := []) ⟨rfl, rfl, rfl⟩
  ·rw [if_pos ⟨h0, rfl⟩]
   obtain ⟨b, off, C, T, fr, x, e1, hb, hfit, hc, hx, hp, hm⟩ := nth_cell h a' h0
   have hnm : (WQ ro.p a').num = x.num := by rw [← hp]
   obtain ⟨_, hk0, hk1⟩ := idxU_lt a' h0
   have hcell : C[off + ((IntKind.u64.wrap a').tmod (v.n : Int)).toNat * 7 + 0]? = some (.int .i64 x.num) := cell_at hc rfl
   rw [hnm]
   simp only [Yh]
   rw [e1]
   repeat' (first | (refine ZE ?_; refine Zo (Zd rfl) rfl rfl ?_) | (refine Zj ?_; first | (refine Zf ?_; refine qQ ?_) | refine Zn ?_) | refine Zb ?_ | (refine Zi ?_; refine Zv ?_) | (refine Zh ?_; refine Zu ?_) | intro _)
   refine ZD (Zs _ _ _) ZF ?_
   all_goals (refine ZS 0 ?_; refine ZO ?_; refine ZX 1 ?_; refine ZS 2 ?_; refine ZX 3 ?_; refine rCv 4 ?_; refine ZT 5 ?_; refine rCv 6 ?_; refine rRm 7 ?_; refine rIa 8 ?_; refine ZS 9 ?_; refine ZX 10 ?_; refine rAs 11 ?_; refine ZI ?_)
   all_goals (repeat' (first | (refine ZE ?_; refine Zo (Zd rfl) rfl rfl ?_) | (refine Zj ?_; first | (refine Zf ?_; refine qQ ?_) | refine Zn ?_) | refine Zb ?_ | (refine Zi ?_; refine Zv ?_) | (refine Zh ?_; refine Zu ?_) | intro _))
   all_goals exact qE (L' := []) ⟨rfl, rfl, rfl⟩
 ·rw [if_neg (fun e => h0 e.1)]
  repeat' (first | (refine ZE ?_; refine Zo (Zd rfl) rfl rfl ?_) | (refine Zj ?_; first | (refine Zf ?_; refine qQ ?_) | refine Zn ?_) | refine Zb ?_ | (refine Zi ?_; refine Zv ?_) | (refine Zh ?_; refine Zu ?_) | intro _)
  exact qE (L' := []) ⟨rfl, rfl, rfl⟩
def lastF : Nat → List TxP → Nat
 | n, [] => n
 | n, t :: r => lastF (max n t.last) r
theorem lastF_le : ∀ {l : List TxP} {n m : Nat}, n ≤ m → (∀ t ∈ l, t.last ≤ m) → lastF n l ≤ m
 | [], _, _, h, _ => h
 | t :: r, n, m, h, h2 => by
  rw [lastF]
  have := h2 t (by simp)
  exact lastF_le (by omega) (fun x hx => h2 x (by simp [hx]))
def XZ (p : Yr) : Nat := lastF 0 p.txns
theorem last18_spec (ρ : Hp) (v : SV) (ro : Ros) (h : RosIn ρ v ro) : Spec Tryz.prog 59 [.agg ⟨Yh v ro⟩] ρ [] (fun z ρ' L' => z = .int .u64 (XZ ro.p : Nat) ∧ ρ' = ρ ∧ L' = []) := by
 have hl := h.at'.at'.len
 have hA := h.at'.at'
 have hbig := h.at'.big
 refine Zg Tryz.func59 rfl rfl rfl fun u R => ?_
 simp only [Zx, List.cons_append, List.nil_append]
 unfold XZ
 generalize hq : lastF 0 ro.p.txns = q
 repeat' (first | (refine ZE ?_; refine Zo (Zd rfl) rfl rfl ?_) | (refine Zj ?_; first | (refine Zf ?_; refine qQ ?_) | refine Zn ?_) | refine Zb ?_ | (refine Zi ?_; refine Zv ?_) | (refine Zh ?_; refine Zu ?_) | intro _)
 refine ZB [(2, _), (7, _), (8, _)] (fun (ζ : (Nat) × (Nat)) => [(9, .int .i64 ζ.1), (3, .int .u64 ζ.2)]) (fun (ζ : (Nat) × (Nat)) => ρ) (fun (ζ : (Nat) × (Nat)) => []) (fun (ζ : (Nat) × (Nat)) => ζ.1 ≤ v.n ∧ lastF ζ.2 (ro.p.txns.drop ζ.1) = q) (fun (ζ : (Nat) × (Nat)) => v.n - ζ.1) ((0, 0)) (⟨Nat.zero_le _, hq⟩) Zm Zm rfl tk ?_
 rintro ⟨k, n⟩ hI
 try simp only [List.cons_append, List.nil_append, List.append_assoc, List.append_eq] at hI ⊢
 try dsimp only at hI ⊢
 obtain ⟨hk, hI⟩ := hI
 by_cases hlt : k < v.n
 ·obtain ⟨b, off, C, T, fr, e1, hb, hfit, hc⟩ := hA.get (show k < ro.txns.length by omega)
  have hd : ro.p.txns.drop k = (ro.txns[k]'(by omega)).p :: ro.p.txns.drop (k + 1) := by
   rw [List.drop_eq_getElem_cons (show k < ro.p.txns.length by simp [Ros.p]; omega)]
   simp [Ros.p]
  rw [hd, lastF] at hI
  generalize ro.txns[k]'(by omega) = x at *
  have hmx : max (n : Int) (x.last : Int) = ((max n x.last : Nat) : Int) := by omega
  rw [e1]
  repeat' (first | (refine ZE ?_; refine Zo (Zd rfl) rfl rfl ?_) | (refine Zj ?_; first | (refine Zf ?_; refine qQ ?_) | refine Zn ?_) | refine Zb ?_ | (refine Zi ?_; refine Zv ?_) | (refine Zh ?_; refine Zu ?_) | intro _)
  try simp only [hmx]
  rw [← e1]
  refine Zq (k + 1, max n x.last) (⟨hlt, hI⟩) Zm Zm rfl tk inferInstance (by first | omega | (dsimp only; omega))
 ·rw [List.drop_of_length_le (by simp [Ros.p]; omega), lastF] at hI
  subst hI
  repeat' (first | (refine ZE ?_; refine Zo (Zd rfl) rfl rfl ?_) | (refine Zj ?_; first | (refine Zf ?_; refine qQ ?_) | refine Zn ?_) | refine Zb ?_ | (refine Zi ?_; refine Zv ?_) | (refine Zh ?_; refine Zu ?_) | intro _)
  exact qE (L' := []) ⟨rfl, rfl, rfl⟩
def nextO (o : OpD) (t : TxP) : Nat := if t.stack.length = 0 then t.first else (t.stack.getD (idxU o.n t.stack.length) ⟨0, 0⟩).lsn
def nextU (o : OpD) (t : TxP) : Nat := if t.undo ≤ nextO o t ∧ o.rc.kind = 5 then t.first else nextO o t
def recOf (o : OpD) (p : Yr) : Rc :=
 if o.near = true then
  (if o.rc.kind = 1 then { o.rc with lsn := XZ p + 1, txn := p.next }
   else if p.txns.length = 0 ∨ o.rc.kind = 9 then { o.rc with lsn := XZ p + 1 }
   else if o.rc.kind = 3 ∨ o.rc.kind = 4 ∨ o.rc.kind = 5 then { o.rc with lsn := XZ p + 1, txn := (WQ p o.at').num, prev := (WQ p o.at').last, next := nextU o (WQ p o.at') }
   else { o.rc with lsn := XZ p + 1, txn := (WQ p o.at').num, prev := (WQ p o.at').last })
 else o.rc
theorem recOf_in {ρ : Hp} {o : OpD} {p : Yr} (h : RcIn ρ o.rv o.rc) : RcIn ρ o.rv (recOf o p) := by
 unfold recOf
 split
 ·split
  ·exact ⟨h.i, h.im, h.s, h.t, h.d, h.sf⟩
  ·split
   ·exact ⟨h.i, h.im, h.s, h.t, h.d, h.sf⟩
   ·split
    ·exact ⟨h.i, h.im, h.s, h.t, h.d, h.sf⟩
    ·exact ⟨h.i, h.im, h.s, h.t, h.d, h.sf⟩
 ·exact h
abbrev toldV (v : SV) (ro : Ros) (n e : Int) : List Value := [.int .i64 ro.next, .slice v.a v.n v.c, .int .i64 n, .int .i64 e]
def opK (o : OpD) : Int := (IntKind.u64.wrap o.kind).tmod 7
def runP (o : OpD) (p : Yr) : Yr := if opK o = 5 then XX p (opN o p) else if opK o = 6 then cutP p (opN o p) o.n else XK p (recOf o p)
def runN (o : OpD) (p : Yr) : Int := if opK o = 5 then markK p (opN o p) else 0
def runE (o : OpD) (p : Yr) : Int := if opK o = 5 then markE p (opN o p) else if opK o = 6 then cutE p (opN o p) o.n else XY p (recOf o p)
theorem lastP_le {p : Yr} (h : RosG p) : XZ p ≤ 1099511627776 := lastF_le (Nat.zero_le _) fun t ht => (h.tx t ht).2.2.lm
end Go.Proofs.E
namespace Go.Proofs.E
open Go Go.RowKit
set_option linter.unusedVariables false
set_option linter.unusedSimpArgs false
set_option linter.unusedSectionVars false
set_option maxRecDepth 8000
structure OpW (ρ : Hp) (o : OpD) : Prop where
 r : RcW ρ o.rv o.rc
 n : i64in o.n
theorem OpW.mono {ρ ρ' : Hp} {o : OpD} (h : OpW ρ o) (hle : ρ.le ρ') : OpW ρ' o := ⟨h.r.mono hle, h.n⟩
section
variable {H : Type} {enc : TypeId × Value → H} {w : World}
theorem opnS_op : OpnS enc Tryz.prog w 65 (fun cs (x : OpD) => cs = opV x ∧ OpW (hpOf w) x) := fun fuel cs x h hw => by
 obtain ⟨hl, hf⟩ := YK Tryz.underlying65 h hw
 have hl : cs.length = 15 := by rw [hl]; kernel_rfl
 obtain ⟨c0, c1, c2, c3, c4, c5, c6, c7, c8, c9, d0, d1, d2, d3, d4, rfl⟩ : ∃ c0 c1 c2 c3 c4 c5 c6 c7 c8 c9 d0 d1 d2 d3 d4, cs = [c0, c1, c2, c3, c4, c5, c6, c7, c8, c9, d0, d1, d2, d3, d4] := by
  match cs, hl with
  | [c0, c1, c2, c3, c4, c5, c6, c7, c8, c9, d0, d1, d2, d3, d4], _ => exact ⟨c0, c1, c2, c3, c4, c5, c6, c7, c8, c9, d0, d1, d2, d3, d4, rfl⟩
 obtain ⟨k, h0, _⟩ := ZJ h hw Tryz.underlying65 0 0 1 rfl rfl rfl (by kernel_rfl) (Yx Tryz.underlying3).sized
 obtain ⟨m, h1, _⟩ := ZJ h hw Tryz.underlying65 1 1 1 rfl rfl rfl (by kernel_rfl) (Yx Tryz.underlying3).sized
 obtain ⟨n, h2, hn⟩ := ZJ h hw Tryz.underlying65 2 2 1 rfl rfl rfl (by kernel_rfl) (Yx Tryz.underlying3).sized
 obtain ⟨a, h3, _⟩ := ZJ h hw Tryz.underlying65 3 3 1 rfl rfl rfl (by kernel_rfl) (Yx Tryz.underlying3).sized
 obtain ⟨b, h4⟩ := ZJ h hw Tryz.underlying65 4 4 1 rfl rfl rfl (by kernel_rfl) (opn_bool Tryz.underlying4).sized
 obtain ⟨⟨rv, rc⟩, h5, w5⟩ := ZJ h hw Tryz.underlying65 5 5 10 rfl rfl rfl (by kernel_rfl) opnS_rec
 simp only [RB, List.drop_zero, List.drop_succ_cons, List.take_succ_cons, List.take_zero, List.cons.injEq, and_true] at h0 h1 h2 h3 h4 h5
 obtain ⟨g0, g1, g2, g3, g4, g5, g6, g7, g8, g9⟩ := h5
 subst h0; subst h1; subst h2; subst h3; subst h4; subst g0; subst g1; subst g2; subst g3; subst g4; subst g5; subst g6; subst g7; subst g8; subst g9
 exact ⟨⟨k, m, n, a, b, rv, rc⟩, rfl, w5, hn⟩
end
end Go.Proofs.E
