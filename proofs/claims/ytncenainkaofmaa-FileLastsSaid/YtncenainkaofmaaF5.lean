/- Contents of layer 3, disks of layer 2 and files of layer 14 as data, and what their functions come to. Part 5 of 6. -/
import Derived.Test.YtncenainkaofmaaF4
import Derived.ChangeKeysEq
namespace Go.Proofs.E
open Go
set_option linter.unusedVariables false
set_option linter.unusedSimpArgs false
set_option linter.unusedSectionVars false
set_option maxRecDepth 4000
set_option maxHeartbeats 1000000
attribute [local irreducible] Yl TL TC TE Spec YSpec R1 Hp.le EnvLe TS TR YS Stays
theorem numb_spec (ρ : Hp) (a : Option Addr) (n c : Nat) (l : Bs) (h : SIn ρ u8c a n l) (hn : n ≤ 8) :
    Spec Try.prog 124 [.slice a n c] ρ [] (fun v ρ' L' => v = .int .u64 (unbe l : Nat) ∧ ρ' = ρ ∧ L' = []) := by
  have hl := h.len
  refine spec_enter Try.func124 rfl rfl rfl fun u R => ?_
  simp only [argsE, List.cons_append, List.nil_append]
  repeat' (first | (refine i_op ?_; first | (refine i_qq ?_; refine qQ ?_) | refine qEf ?_) | refine tl_nil ?_ | (refine i_tc ?_; refine qTc ?_) | (refine i_te ?_; refine qTe ?_) | intro _)
  refine tc_loop_g [(5, _), (6, _)] (fun (ζ : (Nat) × (Nat)) => [(7, .int .i64 ζ.1), (2, .int .u64 (ζ.2 : Nat))]) (fun (ζ : (Nat) × (Nat)) => ρ) (fun (ζ : (Nat) × (Nat)) => []) (fun (ζ : (Nat) × (Nat)) => ζ.1 ≤ n ∧ ζ.2 = unbe (l.take ζ.1)) (fun (ζ : (Nat) × (Nat)) => n - ζ.1) ((0, 0)) (⟨Nat.zero_le _, rfl⟩) ev_le ev_le rfl tk ?_
  rintro ⟨k, z⟩ hI
  try simp only [List.cons_append, List.nil_append, List.append_assoc, List.append_eq] at hI ⊢
  try dsimp only at hI ⊢
  obtain ⟨hk, hz⟩ := hI
  by_cases hlt : k < n
  · obtain ⟨b, off, C, T, fr, rfl, hb, hc⟩ := h.get (show k < l.length by omega)
    have hzl := unbe_take_lt l k (by omega) (by omega)
    rw [← hz] at hzl
    have hs := take_succ_unbe l k (by omega)
    have hbt : l[k].toNat < 256 := l[k].toNat_lt
    generalize l[k] = b8 at *
    simp only [u8c] at hc
    repeat' (first | (refine i_op ?_; first | (refine i_qq ?_; refine qQ ?_) | refine qEf ?_) | refine tl_nil ?_ | (refine i_tc ?_; refine qTc ?_) | (refine i_te ?_; refine qTe ?_) | intro _)
    have e : (z : Int) * 256 + (b8.toNat : Int) = ((z * 256 + b8.toNat : Nat) : Int) := by omega
    rw [e]
    refine te_round_g (k + 1, z * 256 + b8.toNat) (⟨hlt, by dsimp only; rw [hs, hz]⟩) ev_le ev_le rfl tk inferInstance (by first | omega | (dsimp only; omega))
  · have hk2 : k = n := by omega
    subst hk2
    rw [List.take_of_length_le (by omega)] at hz
    subst hz
    repeat' (first | (refine i_op ?_; first | (refine i_qq ?_; refine qQ ?_) | refine qEf ?_) | refine tl_nil ?_ | (refine i_tc ?_; refine qTc ?_) | (refine i_te ?_; refine qTe ?_) | intro _)
    exact qE ⟨rfl, rfl, rfl⟩
theorem sects_spec (ρ : Hp) (n : Nat) (hn : n ≤ 4611686018427387904) : Spec Try.prog 12 [.int .i64 n] ρ [] (fun v ρ' L' => v = .int .i64 (sects n : Nat) ∧ ρ' = ρ ∧ L' = []) := by
  refine spec_enter Try.func12 rfl rfl rfl fun u R => ?_
  simp only [argsE, List.cons_append, List.nil_append]
  have e : max 1 (IntKind.i64.wrap (((n : Int) + 52 - 1).tdiv 52)) = ((sects n : Nat) : Int) := by
    rw [Int.tdiv_eq_ediv_of_nonneg (by omega), wrap_id (by simp only [lo, hi]; omega)]
    unfold sects; omega
  repeat' (first | (refine i_op ?_; first | (refine i_qq ?_; refine qQ ?_) | refine qEf ?_) | refine tl_nil ?_ | (refine i_tc ?_; refine qTc ?_) | (refine i_te ?_; refine qTe ?_) | intro _)
  rw [e]
  exact qE ⟨rfl, rfl, rfl⟩
theorem sects_neg (ρ : Hp) (n : Int) (hn : n < 0) : Spec Try.prog 12 [.int .i64 n] ρ [] (fun v ρ' L' => v = .int .i64 0 ∧ ρ' = ρ ∧ L' = []) := by
  refine spec_enter Try.func12 rfl rfl rfl fun u R => ?_
  simp only [argsE, List.cons_append, List.nil_append]
  repeat' (first | (refine i_op ?_; first | (refine i_qq ?_; refine qQ ?_) | refine qEf ?_) | refine tl_nil ?_ | (refine i_tc ?_; refine qTc ?_) | (refine i_te ?_; refine qTe ?_) | intro _)
  exact qE ⟨rfl, rfl, rfl⟩
theorem block_spec (ρ : Hp) (v : Value) (n : Nat) (l : Bs) (sp : List Value) (h : OwnS v n (l.map u8c) sp 1) :
    Spec Try.prog 119 [v] ρ [ownC v (l.map u8c) sp 5] (fun v ρ' L' => v = bv (pad l) ∧ ρ' = ρ ∧ L' = []) := by
  obtain ⟨a, cap, rfl, hl⟩ := h.len
  have hl' : l.length = n := by simpa using hl
  refine spec_enter Try.func119 rfl rfl rfl fun u R => ?_
  simp only [argsE, List.cons_append, List.nil_append]
  have hz : (List.replicate 64 (Value.int .u8 0)).length = 64 := by simp
  have hst : stc (List.replicate 64 (Value.int .u8 0)) 0 ((l.map u8c).take 64) = (pad l).map u8c := by
    unfold stc
    rw [← pad_take]
    have hl64 : (l.take 64).length ≤ 64 := by simp; omega
    rw [pad_of hl64]
    simp only [List.take_zero, List.nil_append, List.map_append, List.map_take, Nat.zero_add]
    congr 1
    rw [List.drop_replicate]
    simp only [z8, List.map_replicate, List.length_take, List.length_map]
    rfl
  have hpl : ((pad l).map u8c).length = 64 := by simp [pad_len]
  have h1 := u8c_one (pad l)
  repeat' (first | (refine i_op ?_; first | (refine i_qq ?_; refine qQ ?_) | refine qEf ?_) | refine tl_nil ?_ | (refine i_tc ?_; refine qTc ?_) | (refine i_te ?_; refine qTe ?_) | intro _)
  refine tl_copy (ys := l.map u8c) rfl rfl (SrcV.own (v := .nilIface) h (T := 5) (hR := by infer_instance)) (by simpa using hl) (u8c_one l) (by rw [hz]; omega) rfl ?_
  simp only [hst]
  repeat' (first | (refine i_op ?_; first | (refine i_qq ?_; refine qQ ?_) | refine qEf ?_) | refine tl_nil ?_ | (refine i_tc ?_; refine qTc ?_) | (refine i_te ?_; refine qTe ?_) | intro _)
  exact qE ⟨rfl, rfl, rfl⟩
end Go.Proofs.E

namespace Go.Proofs.E
open Go
set_option linter.unusedVariables false
set_option linter.unusedSimpArgs false
set_option linter.unusedSectionVars false
set_option maxRecDepth 4000
set_option maxHeartbeats 1000000
attribute [local irreducible] Yl TL TC TE Spec YSpec R1 Hp.le EnvLe TS TR YS Stays
theorem put_own (ρ : Hp) {v : Value} {l : Bs} {sp : List Value} (h : OwnS v l.length (l.map u8c) sp 1) (x m : Nat) (hx : x < 18446744073709551616) (hm : m ≤ 8) (hm0 : 0 < m) (hl : l.length ≤ 1000000) :
    Spec Try.prog 118 [v, .int .u64 x, .int .i64 m] ρ [ownC v (l.map u8c) sp 5] (fun v' ρ' L' => ρ' = ρ ∧ ∃ sp, OwnS v' (l ++ be m x).length ((l ++ be m x).map u8c) sp 1 ∧ L' = [ownC v' ((l ++ be m x).map u8c) sp 5]) := by
  have := put_spec ρ v _ l (h.appB rfl) x m hx hm hm0 hl
  rwa [show l.length + m = (l ++ be m x).length by simp [be_length]] at this
theorem put_nil (ρ : Hp) (x m : Nat) (hx : x < 18446744073709551616) (hm : m ≤ 8) (hm0 : 0 < m) :
    Spec Try.prog 118 [.slice none 0 0, .int .u64 x, .int .i64 m] ρ [[]] (fun v' ρ' L' => ρ' = ρ ∧ ∃ sp, OwnS v' (be m x).length ((be m x).map u8c) sp 1 ∧ L' = [ownC v' ((be m x).map u8c) sp 5]) :=
  put_own ρ (l := []) (sp := []) (OwnS.nil 1) x m hx hm hm0 (by simp)
theorem tl_app_own {x : Cx} {Q : Exit → Act → World → Prop} {E : Env} {ρ : Hp} {L L1 : SH} {ops : Array Oper} {rest : List Oper} {ty : TypeId} {pos : String} {af : Array Edge} {d t e m cx : Nat} {s y : Operand} {v : Value} {sp : List Value} {l ys : List UInt8} {a : Option Addr} [hS : TySlice x.P t e] [hZ : TySz x.P e 1] [hB : TyBytes x.P e 1] [hz : TyZero x.P e (.int .u8 0)]
    (hs : ev E s = some v) (hy : ev E y = some (.slice a m cx)) (h : OwnS v l.length (l.map u8c) sp 1) [hR : Rem (ownC v (l.map u8c) sp e) L L1] (hsrc : SrcV x ρ L1 a (ys.map u8c)) (hlen : ys.length = m)
    (hb : l.length + m ≤ 140737488355328) (hd : Nat.blt d x.N = true)
    (k : ∀ v' sp', OwnS v' (l ++ ys).length ((l ++ ys).map u8c) sp' 1 → TL x ops rest Q ((d, v') :: E) ρ (ownC v' ((l ++ ys).map u8c) sp' e :: L1)) :
    TL x ops (⟨some d, .call { callee := .builtin .append, args := #[s, y], argTypes := #[t, t] }, ty, pos, af, none⟩ :: rest) Q E ρ L :=
  tl_app hs hy h hsrc (by simpa using hlen) (u8c_one ys) (by decide) rfl (by omega) (by omega) hd (fun v' sp' ho => by
    rw [← List.map_append] at ho ⊢
    exact k v' sp' (by rw [List.length_append, hlen]; exact ho))
/-- a sector of an entry, of bytes that are own or never turn -/
theorem part_spec (ρ : Hp) (X : SH) (turn n : Nat) (a : Option Addr) (bn c : Nat) (b : Bs) (hb : Rd ρ X a bn b) (hc : bn ≤ c) (k : Nat) (ht : turn < 4294967296) (hn : n ≤ 1099511627776) (hbl : bn ≤ 8000) (hk : k < sects bn) :
    Spec Try.prog 89 [.int .u64 turn, .int .u64 n, .slice a bn c, .int .i64 k] ρ X (fun v ρ' L' => v = bv (partB turn n b k) ∧ ρ' = ρ ∧ L' = X) := by
  have hl := hb.len
  have hkm : 52 * k ≤ bn := by unfold sects at hk; omega
  have hk2 : k < 256 := by unfold sects at hk; omega
  have hkb : Value.int .u8 (IntKind.u8.wrap (k : Int)) = u8c (UInt8.ofNat k) := u8_wrap k
  have hkb' : Value.int .u8 (k : Int) = u8c (UInt8.ofNat k) := by rw [← hkb, wrap_id (by simp only [lo, hi]; omega)]
  have hlo : (52 * (k : Int)).toNat = 52 * k := by omega
  have hhi : (min (52 * (k : Int) + 52) (bn : Int)).toNat - 52 * k = min 52 (bn - 52 * k) := by omega
  have htk : (b.drop (52 * k)).take (min 52 (bn - 52 * k)) = (b.drop (52 * k)).take 52 := by
    by_cases h : 52 ≤ bn - 52 * k
    · rw [Nat.min_eq_left h]
    · rw [Nat.min_eq_right (by omega), List.take_of_length_le (by simp; omega), List.take_of_length_le (by simp; omega)]
  have hfin : ∀ n2, pad (be 4 turn ++ be 5 n ++ be 2 n2 ++ [UInt8.ofNat k] ++ (b.drop (52 * k)).take (min 52 (bn - 52 * k))) = pad (be 4 turn ++ (be 5 n ++ (be 2 n2 ++ (UInt8.ofNat k :: (b.drop (52 * k)).take 52)))) := fun n2 => by rw [htk]; simp
  have hfin2 : pad (be 4 turn ++ be 5 n ++ be 2 bn ++ [UInt8.ofNat k] ++ (b.drop (52 * k)).take (min 52 (bn - 52 * k))) = partB turn n b k := by rw [hfin, ← hl]; rfl
  have hpl : ((partB turn n b k).map u8c).length = 64 := by simp [partB_len]
  have hp1 := u8c_one (partB turn n b k)
  refine spec_enter Try.func89 rfl rfl rfl fun u R => ?_
  simp only [argsE, List.cons_append, List.nil_append]
  repeat' (first | (refine tl_is (.func 118) ?_; refine qC rfl rfl (put_nil _ turn 4 (by omega) (by omega) (by omega)) ?_; rintro v1 ρ' L' hle ⟨rfl, sp1, hown1, rfl⟩; simp only [List.cons_append, List.nil_append]) | (refine i_op ?_; first | (refine i_qq ?_; refine qQ ?_) | refine qEf ?_) | refine tl_nil ?_ | (refine i_tc ?_; refine qTc ?_) | (refine i_te ?_; refine qTe ?_) | intro _)
  repeat' (first | (refine tl_is (.func 118) ?_; refine qC rfl rfl (put_own _ hown1 n 5 (by omega) (by omega) (by omega) (by simp [be_length])) ?_; rintro v2 ρ2 L2 hle2 ⟨rfl, sp2, hown2, rfl⟩; simp only [List.cons_append, List.nil_append]) | (refine i_op ?_; first | (refine i_qq ?_; refine qQ ?_) | refine qEf ?_) | refine tl_nil ?_ | (refine i_tc ?_; refine qTc ?_) | (refine i_te ?_; refine qTe ?_) | intro _)
  repeat' (first | (refine tl_is (.func 118) ?_; refine qC rfl rfl (put_own _ hown2 bn 2 (by omega) (by omega) (by omega) (by simp [be_length])) ?_; rintro v3 ρ3 L3 hle3 ⟨rfl, sp3, hown3, rfl⟩; simp only [List.cons_append, List.nil_append]) | (refine i_op ?_; first | (refine i_qq ?_; refine qQ ?_) | refine qEf ?_) | refine tl_nil ?_ | (refine i_tc ?_; refine qTc ?_) | (refine i_te ?_; refine qTe ?_) | intro _)
  refine tc_any (Stays _ _ ([])) (stays_of (hT := tk) (Hp.le_refl _)) ?_
  all_goals refine rMv 0 ?_
  all_goals refine rMv 1 ?_
  all_goals refine rCv 2 ?_
  all_goals refine rMv 5 ?_
  all_goals refine rMv 6 ?_
  all_goals refine rMv 7 ?_
  all_goals refine rAd 8 ?_
  all_goals refine rMv 9 ?_
  all_goals refine rBi 10 ?_
  all_goals refine rBi 11 ?_
  all_goals refine rSl 12 ?_
  all_goals (refine rStep (i := 3) ?_; ((try refine qWant ?_); (first | (refine tl_buildSlice_s rfl rfl rfl rfl (by simp) rfl rfl (fun _ => ?_); simp only [hkb']) | (refine qEf ?_; try intro _)) <;> ((try simp only [List.cons_append, List.nil_append, List.append_eq]); refine tl_nil ?_; refine rNext ?_)))
  all_goals (refine rStep (i := 4) ?_; ((try refine qWant ?_); (first | (refine tl_app_own (ys := [UInt8.ofNat k]) (m := 1) rfl rfl hown3 (hR := by infer_instance) SrcV.lit rfl (by simp [be_length]) rfl (fun v4 sp4 hown4 => ?_)) | (simp only [hlo, hhi]; refine tl_app_own (ys := (b.drop (52 * k)).take (min 52 (bn - 52 * k))) rfl rfl hown4 (hR := by infer_instance) (by rw [List.map_take, List.map_drop]; exact SrcV.sub (hb.src _ _ _ _ (Hp.le_refl _) tk) (by simp; omega) (by simpa [hl] using hc)) (by simp; omega) (by simp [be_length]; omega) rfl (fun v5 sp5 hown5 => ?_)) | (refine tl_is (.func 119) ?_; refine qC rfl rfl (block_spec _ _ _ _ _ hown5) ?_; rintro v6 ρ6 L6 hle6 ⟨rfl, rfl, rfl⟩; simp only [List.cons_append, List.nil_append, hfin2]) | (refine qEf ?_; try intro _)) <;> ((try simp only [List.cons_append, List.nil_append, List.append_eq]); refine tl_nil ?_; refine rNext ?_)))
  all_goals (refine rStep (i := 13) ?_; ((try refine qWant ?_); (first | (refine tl_app_own (ys := [UInt8.ofNat k]) (m := 1) rfl rfl hown3 (hR := by infer_instance) SrcV.lit rfl (by simp [be_length]) rfl (fun v4 sp4 hown4 => ?_)) | (simp only [hlo, hhi]; refine tl_app_own (ys := (b.drop (52 * k)).take (min 52 (bn - 52 * k))) rfl rfl hown4 (hR := by infer_instance) (by rw [List.map_take, List.map_drop]; exact SrcV.sub (hb.src _ _ _ _ (Hp.le_refl _) tk) (by simp; omega) (by simpa [hl] using hc)) (by simp; omega) (by simp [be_length]; omega) rfl (fun v5 sp5 hown5 => ?_)) | (refine tl_is (.func 119) ?_; refine qC rfl rfl (block_spec _ _ _ _ _ hown5) ?_; rintro v6 ρ6 L6 hle6 ⟨rfl, rfl, rfl⟩; simp only [List.cons_append, List.nil_append, hfin2]) | (refine qEf ?_; try intro _)) <;> ((try simp only [List.cons_append, List.nil_append, List.append_eq]); refine tl_nil ?_; refine rNext ?_)))
  all_goals (refine rStep (i := 14) ?_; ((try refine qWant ?_); (first | (refine tl_is (.func 119) ?_; refine qC rfl rfl (block_spec _ _ _ _ _ hown5) ?_; rintro v6 ρ6 L6 hle6 ⟨rfl, rfl, rfl⟩; simp only [List.cons_append, List.nil_append, hfin2]) | (refine qEf ?_; try intro _)) <;> ((try simp only [List.cons_append, List.nil_append, List.append_eq]); refine tl_nil ?_; refine rNext ?_)))
  all_goals (refine rStep (i := 15) ?_; ((try refine qWant ?_); (first | (refine qEf ?_; try intro _)) <;> ((try simp only [List.cons_append, List.nil_append, List.append_eq]); refine tl_nil ?_; refine rNext ?_)))
  all_goals refine rDone ?_
  all_goals (repeat' (first | (refine i_op ?_; first | (refine i_qq ?_; refine qQ ?_) | refine qEf ?_) | refine tl_nil ?_ | (refine i_tc ?_; refine qTc ?_) | (refine i_te ?_; refine qTe ?_) | intro _))
  all_goals exact qE ⟨rfl, rfl, rfl⟩
end Go.Proofs.E

namespace Go.Proofs.E
open Go
set_option linter.unusedVariables false
set_option linter.unusedSimpArgs false
set_option linter.unusedSectionVars false
set_option maxRecDepth 4000
set_option maxHeartbeats 1000000
attribute [local irreducible] Yl TL TC TE Spec YSpec R1 Hp.le EnvLe TS TR YS Stays
abbrev hdV (h : Hd) (na : Option Addr) (nn nc : Nat) : List Value := [.int .u64 h.turn, .int .u64 h.first, .int .i64 h.size, .int .i64 h.place, .slice na nn nc]
theorem letB_v : [Value.int .u8 98, .int .u8 117, .int .u8 114, .int .u8 115, .int .u8 114, .int .u8 105, .int .u8 110, .int .u8 103] = letB.map u8c := rfl
theorem hblock_spec (ρ : Hp) (h : Hd) (na : Option Addr) (nn nc : Nat) (hn : SIn ρ u8c na nn h.note) (ht : h.turn < 4294967296) (hf : h.first ≤ 1099511627776) (hs : h.size < 65536) (hp : h.place < 65536) (hnl : nn ≤ 32) :
    Spec Try.prog 85 [.agg ⟨hdV h na nn nc⟩] ρ [] (fun v ρ' L' => v = bv (headB h) ∧ ρ' = ρ ∧ L' = []) := by
  have hl := hn.len
  have hkb : Value.int .u8 (nn : Int) = u8c (UInt8.ofNat nn) := by rw [← u8_wrap nn, wrap_id (by simp only [lo, hi]; omega)]
  have hpl : ((headB h).map u8c).length = 64 := by simp [headB_len]
  have hp1 := u8c_one (headB h)
  have hfin : pad (letB ++ be 4 h.turn ++ be 2 h.size ++ be 5 h.first ++ be 2 h.place ++ [UInt8.ofNat nn] ++ h.note) = headB h := by unfold headB; rw [hl]; simp
  refine spec_enter Try.func85 rfl rfl rfl fun u R => ?_
  simp only [argsE, List.cons_append, List.nil_append]
  repeat' (first | (refine tl_buildSlice_s rfl rfl rfl rfl (by simp) rfl rfl (fun _ => ?_)) | (refine i_op ?_; first | (refine i_qq ?_; refine qQ ?_) | refine qEf ?_) | refine tl_nil ?_ | (refine i_tc ?_; refine qTc ?_) | (refine i_te ?_; refine qTe ?_) | intro _)
  rename_i b1 b2 b3
  repeat' (first | (refine tl_is (.func 118) ?_; refine qC (Lf := [[(b3, .cells ⟨letB.map u8c⟩ 5 (8, 9))]]) rfl rfl (put_spec _ _ _ letB (.inr ⟨b3, (8, 9), rfl, by simp [letB], rfl⟩) h.turn 4 (by omega) (by omega) (by omega) (by simp [letB])) ?_; rintro v1 ρ' L' hle ⟨rfl, sp1, hown1, rfl⟩; simp only [List.cons_append, List.nil_append]) | (refine i_op ?_; first | (refine i_qq ?_; refine qQ ?_) | refine qEf ?_) | refine tl_nil ?_ | (refine i_tc ?_; refine qTc ?_) | (refine i_te ?_; refine qTe ?_) | intro _)
  replace hown1 : OwnS v1 (letB ++ be 4 h.turn).length ((letB ++ be 4 h.turn).map u8c) sp1 1 := by rw [List.length_append, be_length]; exact hown1
  refine tc_any (Stays _ _ ([[(b1, .cells ⟨hdV h na nn nc⟩ 95 (0, 0))]])) (stays_of (hT := tk) (Hp.le_refl _)) ?_
  all_goals refine rMv 0 ?_
  all_goals refine rFa 1 ?_
  all_goals refine rLd 2 ?_
  all_goals refine rCv 3 ?_
  all_goals refine rFa 5 ?_
  all_goals refine rLd 6 ?_
  all_goals refine rFa 8 ?_
  all_goals refine rLd 9 ?_
  all_goals refine rCv 10 ?_
  all_goals (refine rStep (i := 4) ?_; ((try refine qWant ?_); (first | (refine tl_is (.func 118) ?_; refine qC rfl rfl (put_own _ hown1 h.size 2 (by omega) (by omega) (by omega) (by simp [be_length, letB])) ?_; rintro v2 ρ2 L2 hle2 ⟨rfl, sp2, hown2, rfl⟩; simp only [List.cons_append, List.nil_append]) | (refine tl_is (.func 118) ?_; refine qC rfl rfl (put_own _ hown2 h.first 5 (by omega) (by omega) (by omega) (by simp [be_length, letB])) ?_; rintro v3 ρ3 L3 hle3 ⟨rfl, sp3, hown3, rfl⟩; simp only [List.cons_append, List.nil_append]) | (refine tl_is (.func 118) ?_; refine qC rfl rfl (put_own _ hown3 h.place 2 (by omega) (by omega) (by omega) (by simp [be_length, letB])) ?_; rintro v4 ρ4 L4 hle4 ⟨rfl, sp4, hown4, rfl⟩; simp only [List.cons_append, List.nil_append]) | (refine qEf ?_; try intro _)) <;> ((try simp only [List.cons_append, List.nil_append, List.append_eq]); refine tl_nil ?_; refine rNext ?_)))
  all_goals (refine rStep (i := 7) ?_; ((try refine qWant ?_); (first | (refine tl_is (.func 118) ?_; refine qC rfl rfl (put_own _ hown1 h.size 2 (by omega) (by omega) (by omega) (by simp [be_length, letB])) ?_; rintro v2 ρ2 L2 hle2 ⟨rfl, sp2, hown2, rfl⟩; simp only [List.cons_append, List.nil_append]) | (refine tl_is (.func 118) ?_; refine qC rfl rfl (put_own _ hown2 h.first 5 (by omega) (by omega) (by omega) (by simp [be_length, letB])) ?_; rintro v3 ρ3 L3 hle3 ⟨rfl, sp3, hown3, rfl⟩; simp only [List.cons_append, List.nil_append]) | (refine tl_is (.func 118) ?_; refine qC rfl rfl (put_own _ hown3 h.place 2 (by omega) (by omega) (by omega) (by simp [be_length, letB])) ?_; rintro v4 ρ4 L4 hle4 ⟨rfl, sp4, hown4, rfl⟩; simp only [List.cons_append, List.nil_append]) | (refine qEf ?_; try intro _)) <;> ((try simp only [List.cons_append, List.nil_append, List.append_eq]); refine tl_nil ?_; refine rNext ?_)))
  all_goals (refine rStep (i := 11) ?_; ((try refine qWant ?_); (first | (refine tl_is (.func 118) ?_; refine qC rfl rfl (put_own _ hown1 h.size 2 (by omega) (by omega) (by omega) (by simp [be_length, letB])) ?_; rintro v2 ρ2 L2 hle2 ⟨rfl, sp2, hown2, rfl⟩; simp only [List.cons_append, List.nil_append]) | (refine tl_is (.func 118) ?_; refine qC rfl rfl (put_own _ hown2 h.first 5 (by omega) (by omega) (by omega) (by simp [be_length, letB])) ?_; rintro v3 ρ3 L3 hle3 ⟨rfl, sp3, hown3, rfl⟩; simp only [List.cons_append, List.nil_append]) | (refine tl_is (.func 118) ?_; refine qC rfl rfl (put_own _ hown3 h.place 2 (by omega) (by omega) (by omega) (by simp [be_length, letB])) ?_; rintro v4 ρ4 L4 hle4 ⟨rfl, sp4, hown4, rfl⟩; simp only [List.cons_append, List.nil_append]) | (refine qEf ?_; try intro _)) <;> ((try simp only [List.cons_append, List.nil_append, List.append_eq]); refine tl_nil ?_; refine rNext ?_)))
  all_goals refine rFull ?_
  all_goals refine rAs 12 ?_
  all_goals refine rDone ?_
  all_goals (repeat' (first | (refine i_op ?_; first | (refine i_qq ?_; refine qQ ?_) | refine qEf ?_) | refine tl_nil ?_ | (refine i_tc ?_; refine qTc ?_) | (refine i_te ?_; refine qTe ?_) | intro _))
  refine tc_any (Stays _ _ ([[(b1, .cells ⟨hdV h na nn nc⟩ 95 (0, 0))]])) (stays_of (hT := tk) (Hp.le_refl _)) ?_
  all_goals refine rMv 0 ?_
  all_goals refine rFa 1 ?_
  all_goals refine rLd 2 ?_
  all_goals refine rBi 3 ?_
  all_goals refine rCv 4 ?_
  all_goals refine rFa 7 ?_
  all_goals refine rLd 8 ?_
  all_goals (refine rStep (i := 5) ?_; ((try refine qWant ?_); (first | (refine tl_buildSlice_s rfl rfl rfl rfl (by simp) rfl rfl (fun _ => ?_); simp only [hkb]) | (refine qEf ?_; try intro _)) <;> ((try simp only [List.cons_append, List.nil_append, List.append_eq]); refine tl_nil ?_; refine rNext ?_)))
  all_goals (refine rStep (i := 6) ?_; ((try refine qWant ?_); (first | (refine tl_app_own (ys := [UInt8.ofNat nn]) (m := 1) rfl rfl hown4 (hR := by infer_instance) SrcV.lit rfl (by simp [be_length, letB]) rfl (fun v5 sp5 hown5 => ?_)) | (refine tl_app_own (ys := h.note) rfl rfl hown5 (hR := by infer_instance) (SIn.srcV (by assumption)) hl (by simp [be_length, letB]; omega) rfl (fun v6 sp6 hown6 => ?_)) | (refine tl_is (.func 119) ?_; refine qC rfl rfl (block_spec _ _ _ _ _ hown6) ?_; rintro v7 ρ7 L7 hle7 ⟨rfl, rfl, rfl⟩; simp only [List.cons_append, List.nil_append, hfin]) | (refine qEf ?_; try intro _)) <;> ((try simp only [List.cons_append, List.nil_append, List.append_eq]); refine tl_nil ?_; refine rNext ?_)))
  all_goals (refine rStep (i := 9) ?_; ((try refine qWant ?_); (first | (refine tl_app_own (ys := [UInt8.ofNat nn]) (m := 1) rfl rfl hown4 (hR := by infer_instance) SrcV.lit rfl (by simp [be_length, letB]) rfl (fun v5 sp5 hown5 => ?_)) | (refine tl_app_own (ys := h.note) rfl rfl hown5 (hR := by infer_instance) (SIn.srcV (by assumption)) hl (by simp [be_length, letB]; omega) rfl (fun v6 sp6 hown6 => ?_)) | (refine tl_is (.func 119) ?_; refine qC rfl rfl (block_spec _ _ _ _ _ hown6) ?_; rintro v7 ρ7 L7 hle7 ⟨rfl, rfl, rfl⟩; simp only [List.cons_append, List.nil_append, hfin]) | (refine qEf ?_; try intro _)) <;> ((try simp only [List.cons_append, List.nil_append, List.append_eq]); refine tl_nil ?_; refine rNext ?_)))
  all_goals (refine rStep (i := 10) ?_; ((try refine qWant ?_); (first | (refine tl_is (.func 119) ?_; refine qC rfl rfl (block_spec _ _ _ _ _ hown6) ?_; rintro v7 ρ7 L7 hle7 ⟨rfl, rfl, rfl⟩; simp only [List.cons_append, List.nil_append, hfin]) | (refine qEf ?_; try intro _)) <;> ((try simp only [List.cons_append, List.nil_append, List.append_eq]); refine tl_nil ?_; refine rNext ?_)))
  all_goals (refine rStep (i := 11) ?_; ((try refine qWant ?_); (first | (refine qEf ?_; try intro _)) <;> ((try simp only [List.cons_append, List.nil_append, List.append_eq]); refine tl_nil ?_; refine rNext ?_)))
  all_goals refine rDone ?_
  all_goals (repeat' (first | (refine i_op ?_; first | (refine i_qq ?_; refine qQ ?_) | refine qEf ?_) | refine tl_nil ?_ | (refine i_tc ?_; refine qTc ?_) | (refine i_te ?_; refine qTe ?_) | intro _))
  all_goals exact qE ⟨rfl, rfl, rfl⟩
end Go.Proofs.E

namespace Go.Proofs.E
open Go
set_option linter.unusedVariables false
set_option linter.unusedSimpArgs false
set_option linter.unusedSectionVars false
set_option maxRecDepth 4000
set_option maxHeartbeats 1000000
attribute [local irreducible] Yl TL TC TE Spec YSpec R1 Hp.le EnvLe TS TR YS Stays
abbrev pencV (p : Nat × Blk) : List Value := [.int .i64 p.1, bv p.2]
theorem take_succ_pre {α : Type} (l : List α) (k : Nat) (h : k < l.length) : l.take k ++ [l[k]] <+: l := by
  rw [← List.take_succ_eq_append_getElem h]; exact List.take_prefix _ _
theorem partsL_at {h : Hd} {n at' : Nat} {b : Bs} {k : Nat} (hk : k < (partsL h n b at').length) : (partsL h n b at')[k] = (2 + (at' + k) % h.size, partB h.turn n b k) := by
  simp [partsL]
theorem partsL_length {h : Hd} {n at' : Nat} {b : Bs} : (partsL h n b at').length = sects b.length := by simp [partsL]
abbrev partsS (bb ab hb nb : Nat) (a : Option Addr) (bn c at' : Nat) (h : Hd) (na : Option Addr) (nn nc n : Nat) : SH :=
  [[(bb, .cells ⟨[.slice a bn c]⟩ 30 (0, 0))], [(ab, .cells ⟨[.int .i64 at']⟩ 3 (0, 0))], [(hb, .cells ⟨hdV h na nn nc⟩ 95 (0, 0))], [(nb, .cells ⟨[.int .u64 n]⟩ 29 (0, 0))]]
theorem parts_iter (ρ0 : Hp) (X : SH) (bb ab hb nb : Nat) (a : Option Addr) (bn c at' : Nat) (b : Bs) (h : Hd) (na : Option Addr) (nn nc n : Nat) (hb0 : Rd ρ0 X a bn b) (hc : bn ≤ c) (ht : h.turn < 4294967296) (hn : n ≤ 1099511627776) (hbl : bn ≤ 8000) (hat : at' ≤ 1000000) (hsz : 0 < h.size) (hsz2 : h.size ≤ 1000000) :
    Iter Try.prog 88 [] [.pointer (some ⟨bb, 0, none⟩), .pointer (some ⟨ab, 0, none⟩), .pointer (some ⟨hb, 0, none⟩), .pointer (some ⟨nb, 0, none⟩)] pencV ρ0 (partsS bb ab hb nb a bn c at' h na nn nc n ++ X) (partsL h n b at') := by
  intro l J Jx hY ρ Lj hl0 hJ
  have hl := hb0.len
  have hsc := sects_le (n := bn) (by omega)
  have hpl : (partsL h n b at').length = sects bn := by rw [partsL_length, hl]
  refine spec_enter Try.func88 rfl rfl rfl fun u R => ?_
  simp only [argsE, List.cons_append, List.nil_append, List.append_assoc]
  repeat' (first | (refine tl_is (.func 12) ?_; refine qC rfl rfl (sects_spec _ bn (by omega)) ?_; rintro v ρ' L' hle ⟨rfl, rfl, rfl⟩ <;> (try simp only [List.cons_append, List.nil_append, List.append_eq])) | (refine i_op ?_; first | (refine i_qq ?_; refine qQ ?_) | refine qEf ?_) | refine tl_nil ?_ | (refine i_tc ?_; refine qTc ?_) | (refine i_te ?_; refine qTe ?_) | intro _)
  refine tc_loop_g [(0, _), (1, _), (2, _), (3, _), (4, _), (9, _)] (fun (ζ : (Nat) × (Hp) × (SH)) => [(10, .int .i64 ζ.1)]) (fun (ζ : (Nat) × (Hp) × (SH)) => ζ.2.1) (fun (ζ : (Nat) × (Hp) × (SH)) => partsS bb ab hb nb a bn c at' h na nn nc n ++ (X ++ ζ.2.2)) (fun (ζ : (Nat) × (Hp) × (SH)) => ζ.1 ≤ sects bn ∧ ρ'.le ζ.2.1 ∧ J ((partsL h n b at').take ζ.1) ζ.2.1 ζ.2.2) (fun (ζ : (Nat) × (Hp) × (SH)) => sects bn - ζ.1) ((0, ρ', Lj)) (⟨Nat.zero_le _, Hp.le_refl _, hJ⟩) ev_le ev_le rfl tk ?_
  rintro ⟨k, ρ1, L1⟩ hI
  try simp only [List.cons_append, List.nil_append, List.append_assoc, List.append_eq] at hI ⊢
  try dsimp only at hI ⊢
  obtain ⟨hk, hle1, hj⟩ := hI
  by_cases hlt : k < sects bn
  · have hk2 : k < (partsL h n b at').length := by omega
    have hpre := take_succ_pre (partsL h n b at') k hk2
    rw [partsL_at] at hpre
    have hts := List.take_succ_eq_append_getElem hk2
    rw [partsL_at] at hts
    have hy := hY _ _ ρ1 L1 hpre (Hp.le_trans hl0 hle1) hj
    have hrm : (2 : Int) + ((at' : Int) + (k : Int)).tmod (h.size : Int) = ((2 + (at' + k) % h.size : Nat) : Int) := by
      rw [Int.tmod_eq_emod_of_nonneg (by omega), Int.natCast_add, Int.natCast_emod, Int.natCast_add]; rfl
    have hrm1 : ((at' : Int) + (k : Int)).tmod (h.size : Int) < h.size := Int.tmod_lt_of_pos _ (by omega)
    have hrm0 : 0 ≤ ((at' : Int) + (k : Int)).tmod (h.size : Int) := Int.tmod_nonneg _ (by omega)
    repeat' (first | (refine i_op ?_; first | (refine i_qq ?_; refine qQ ?_) | refine qEf ?_) | refine tl_nil ?_ | (refine i_tc ?_; refine qTc ?_) | (refine i_te ?_; refine qTe ?_) | intro _)
    refine tc_any (Stays _ _ (partsS bb ab hb nb a bn c at' h na nn nc n)) (stays_of (hT := tk) (Hp.le_refl _)) ?_
    all_goals refine rMv 0 ?_
    all_goals refine rLd 1 ?_
    all_goals refine rMv 2 ?_
    all_goals refine rAd 3 ?_
    all_goals refine rFa 4 ?_
    all_goals refine rLd 5 ?_
    all_goals refine rRm 6 ?_
    all_goals refine rAd 7 ?_
    all_goals refine rFa 8 ?_
    all_goals refine rLd 9 ?_
    all_goals refine rLd 10 ?_
    all_goals refine rLd 11 ?_
    all_goals refine rMv 12 ?_
    all_goals (refine rStep (i := 13) ?_; ((try refine qWant ?_); (first | (refine tl_is (.func 89) ?_; refine qC rfl rfl (part_spec _ X h.turn n a bn c b (hb0.mono (Hp.le_trans hl0 hle1)) hc k ht hn hbl hlt) ?_; rintro v6 ρ6 L6 hle6 ⟨rfl, rfl, rfl⟩; simp only [List.cons_append, List.nil_append, hrm]) | (refine qEf ?_; try intro _)) <;> ((try simp only [List.cons_append, List.nil_append, List.append_eq]); refine tl_nil ?_; refine rNext ?_)))
    all_goals (refine rStep (i := 14) ?_; ((try refine qWant ?_); (first | (refine tl_is (.tmp 13) ?_; refine qY rfl rfl (hy) ?_; rintro v ρ' L' hle ⟨Lj', rfl, ⟨rfl, hj'⟩ | ⟨rfl, hj'⟩⟩ <;> (try simp only [List.cons_append, List.nil_append, List.append_eq, partsS, List.append_assoc])) | (refine qEf ?_; try intro _)) <;> ((try simp only [List.cons_append, List.nil_append, List.append_eq]); refine tl_nil ?_; refine rNext ?_)))
    all_goals refine rFull ?_
    all_goals refine rUn 15 ?_
    all_goals refine rDone ?_
    · repeat' (first | (refine i_op ?_; first | (refine i_qq ?_; refine qQ ?_) | refine qEf ?_) | refine tl_nil ?_ | (refine i_tc ?_; refine qTc ?_) | (refine i_te ?_; refine qTe ?_) | intro _)
      refine te_round_g (k + 1, ρ', Lj') (⟨hlt, Hp.le_trans hle1 hle, by dsimp only; rw [hts]; exact hj'⟩) ev_le ev_le rfl tk inferInstance (by first | omega | (dsimp only; omega))
    · repeat' (first | (refine i_op ?_; first | (refine i_qq ?_; refine qQ ?_) | refine qEf ?_) | refine tl_nil ?_ | (refine i_tc ?_; refine qTc ?_) | (refine i_te ?_; refine qTe ?_) | intro _)
      exact qE (L' := partsS bb ab hb nb a bn c at' h na nn nc n ++ L6 ++ Lj') ⟨Lj', rfl, .inr hj'⟩
  · have hk2 : k = sects bn := by omega
    subst hk2
    rw [List.take_of_length_le (by omega)] at hj
    repeat' (first | (refine i_op ?_; first | (refine i_qq ?_; refine qQ ?_) | refine qEf ?_) | refine tl_nil ?_ | (refine i_tc ?_; refine qTc ?_) | (refine i_te ?_; refine qTe ?_) | intro _)
    exact qE (L' := partsS bb ab hb nb a bn c at' h na nn nc n ++ X ++ L1) ⟨L1, rfl, .inl hj⟩
end Go.Proofs.E

namespace Go.Proofs.E
open Go
set_option linter.unusedVariables false
set_option linter.unusedSimpArgs false
set_option linter.unusedSectionVars false
set_option maxRecDepth 4000
set_option maxHeartbeats 1000000
attribute [local irreducible] Yl TL TC TE Spec YSpec R1 Hp.le EnvLe TS TR YS Stays
theorem kwrite (ρ : Hp) (b : Nat) (k : DK) (D : DS) (i : Int) (blk : Blk) (h64 : blk.length = 64) (h : DOk k D) :
    Spec Try.prog 86 [.pointer (some ⟨b, 0, none⟩), .int .i64 i, bv blk] ρ (diskK b k D) (fun v ρ' L' => v = .int .i64 (D.write i blk).2 ∧ ρ' = ρ ∧ ∃ k', DOk k' (D.write i blk).1 ∧ L' = diskK b k' (D.write i blk).1) :=
  (dwrite_spec ρ b k.hb k.mb k.es k.ck D i blk h64 h.ok h.map).mono (fun v ρ' L' _ ⟨h1, h2, es', ck', h3, h4⟩ => ⟨h1, h2, ⟨k.hb, k.mb, es', ck'⟩, ⟨h.ok.write h64, h3⟩, h4⟩)
theorem ksync (ρ : Hp) (b : Nat) (k : DK) (D : DS) (h : DOk k D) :
    Spec Try.prog 87 [.pointer (some ⟨b, 0, none⟩)] ρ (diskK b k D) (fun v ρ' L' => v = .int .i64 D.sync.2 ∧ ρ.le ρ' ∧ ∃ k', DOk k' D.sync.1 ∧ L' = diskK b k' D.sync.1) :=
  (dsync_spec ρ b k.hb k.mb k.es k.ck D h.ok h.map).mono (fun v ρ' L' _ ⟨h1, h2, mb', es', ck', h3, h4⟩ => ⟨h1, h2, ⟨k.hb, mb', es', ck'⟩, ⟨h.ok.sync, h3⟩, h4⟩)
theorem kread (ρ : Hp) (b : Nat) (k : DK) (D : DS) (i : Int) (h : DOk k D) :
    Spec Try.prog 26 [.pointer (some ⟨b, 0, none⟩), .int .i64 i] ρ (diskK b k D) (fun v ρ' L' => v = .tuple ⟨[bv (D.read i).2.1, .int .i64 (D.read i).2.2]⟩ ∧ ρ' = ρ ∧ DOk k (D.read i).1 ∧ L' = diskK b k (D.read i).1) :=
  (dread_spec ρ b k.hb k.mb k.es k.ck D i h.ok h.map).mono (fun v ρ' L' _ ⟨h1, h2, h4⟩ => ⟨h1, h2, ⟨h.ok.read, h.map.read⟩, h4⟩)
/-- writes that all were done -/
inductive Wr (D : DS) : List (Nat × Blk) → DS → Prop
  | nil : Wr D [] D
  | snoc {l : List (Nat × Blk)} {D1 : DS} {p : Nat × Blk} : Wr D l D1 → (D1.write (p.1 : Int) p.2).2 = 0 → Wr D (l ++ [p]) (D1.write (p.1 : Int) p.2).1
theorem Wr.lays {D D1 : DS} {l : List (Nat × Blk)} (h : Wr D l D1) : ∀ r, DS.lays (l ++ r) D = DS.lays r D1 := by
  induction h with
  | nil => intro r; rfl
  | snoc h1 h2 ih =>
    intro r
    rw [List.append_assoc, ih]
    simp only [List.cons_append, List.nil_append]
    rw [DS.lays, if_pos h2]
theorem Wr.stop {D D1 : DS} {l xs : List (Nat × Blk)} {p : Nat × Blk} (h : Wr D l D1) (hp : l ++ [p] <+: xs) (hc : (D1.write (p.1 : Int) p.2).2 ≠ 0) : DS.lays xs D = D1.write (p.1 : Int) p.2 := by
  obtain ⟨t, rfl⟩ := hp
  rw [List.append_assoc, h.lays]
  simp only [List.cons_append, List.nil_append]
  rw [DS.lays, if_neg hc]
theorem lays_spec (ρ0 ρ : Hp) (g : Nat) (cs : List Value) (S : SH) (xs : List (Nat × Blk)) (hl0 : ρ0.le ρ) (hI : Iter Try.prog g [] cs pencV ρ0 S xs) [hF : Fun Try.prog g] (h64 : ∀ p ∈ xs, p.2.length = 64) (b : Nat) (k : DK) (D : DS) (hD : DOk k D) :
    Spec Try.prog 46 [.pointer (some ⟨b, 0, none⟩), .func (.func g) ⟨[]⟩ ⟨cs⟩] ρ (S ++ diskK b k D) (fun v ρ' L' => v = .int .i64 (DS.lays xs D).2 ∧ ρ.le ρ' ∧ ∃ k', DOk k' (DS.lays xs D).1 ∧ L' = S ++ diskK b k' (DS.lays xs D).1) := by
  refine spec_enter Try.func46 rfl rfl rfl fun u R => ?_
  simp only [argsE, List.cons_append, List.nil_append, List.append_assoc]
  repeat' (first | (refine i_op ?_; first | (refine i_qq ?_; refine qQ ?_) | refine qEf ?_) | refine tl_nil ?_ | (refine i_tc ?_; refine qTc ?_) | (refine i_te ?_; refine qTe ?_) | intro _)
  rename_i b2 b4
  refine tc_rangeFunc (S := S) (L0 := [[(b2, .cells ⟨[.pointer (some ⟨b, 0, none⟩)]⟩ 25 (0, 0))], [(b4, .cells ⟨[.int .i64 0]⟩ 33 (0, 0))]] ++ diskK b k D) (R := R) (R0 := [(b4, .cells ⟨[.int .i64 0]⟩ 33 (0, 0))] :: [(b2, .cells ⟨[.pointer (some ⟨b, 0, none⟩)]⟩ 25 (0, 0))] :: (diskK b k D ++ R)) rfl rfl hI hl0 (fun _ => rfl) rfl
    (fun pre ρ1 Lu => ∃ D1 k1, ρ.le ρ1 ∧ Wr D pre D1 ∧ DOk k1 D1 ∧ Lu = [[(b2, .cells ⟨[.pointer (some ⟨b, 0, none⟩)]⟩ 25 (0, 0))], [(b4, .cells ⟨[.int .i64 0]⟩ 33 (0, 0))]] ++ diskK b k1 D1)
    (fun c ρ1 Lu => c = .exit 0 ∧ ∃ D2 k2 e, ρ.le ρ1 ∧ e ≠ 0 ∧ DS.lays xs D = (D2, e) ∧ DOk k2 D2 ∧ Lu = [[(b2, .cells ⟨[.pointer (some ⟨b, 0, none⟩)]⟩ 25 (0, 0))], [(b4, .cells ⟨[.int .i64 e]⟩ 33 (0, 0))]] ++ diskK b k2 D2) ?k1 ?k2 ⟨D, k, Hp.le_refl _, .nil, hD, rfl⟩ ?round ?done ?stop
  case k1 => exact tk
  case k2 => exact tk
  case round =>
    rintro l tm r pre y ρ1 Lu u R' hpre hl1 ⟨D1, k1, hl2, hwr, hD1, rfl⟩ hr hrec
    simp only [envP, List.cons_append, List.nil_append]
    have hm64 := h64 y (hpre.subset (by simp))
    have hy1 := u8c_one y.2
    have hyl : (y.2.map u8c).length = 64 := by simpa using hm64
    repeat' (first | (refine i_op ?_; first | (refine i_qq ?_; refine qQ ?_) | refine qEf ?_) | refine tl_nil ?_ | (refine i_tc ?_; refine qTc ?_) | (refine i_te ?_; refine qTe ?_) | intro _)
    refine te_front [(l, .loop r)] ?_
    refine te_begin rfl hr (fun r' hbz hrec' => ?_)
    repeat' (first | (refine tl_is (.func 86) ?_; refine qC rfl rfl (kwrite _ b k1 D1 y.1 y.2 hm64 hD1) ?_; rintro v ρ' L' hle ⟨rfl, rfl, k2, hD2, rfl⟩ <;> (try simp only [List.cons_append, List.nil_append, List.append_eq])) | (refine i_op ?_; first | (refine i_qq ?_; refine qQ ?_) | refine qEf ?_) | refine tl_nil ?_ | (refine i_tc ?_; refine qTc ?_) | (refine i_te ?_; refine qTe ?_) | intro _)
    by_cases hc : (D1.write (y.1 : Int) y.2).2 = 0
    · have hcb : ((D1.write (y.1 : Int) y.2).2 != 0) = false := by simpa using hc
      have hw2 := hwr.snoc hc
      rw [hcb, hc]
      repeat' (first | (refine i_op ?_; first | (refine i_qq ?_; refine qQ ?_) | refine qEf ?_) | refine tl_nil ?_ | (refine i_tc ?_; refine qTc ?_) | (refine i_te ?_; refine qTe ?_) | intro _)
      refine te_front [(l, .loop r')] ?_
      refine te_next (Lu := [[(b2, .cells ⟨[.pointer (some ⟨b, 0, none⟩)]⟩ 25 (0, 0))], [(b4, .cells ⟨[.int .i64 0]⟩ 33 (0, 0))]] ++ diskK b k2 (D1.write (y.1 : Int) y.2).1) rfl (Hp.le_refl _) ⟨hrec'.tmps.trans hrec.tmps, hrec'.params.trans hrec.params, hrec'.assign.trans hrec.assign, hrec'.body.trans hrec.body⟩ tk tk inferInstance ?_
      exact ⟨_, k2, hl2, hw2, hD2, rfl⟩
    · have hcb : ((D1.write (y.1 : Int) y.2).2 != 0) = true := by simpa using hc
      have hst := hwr.stop hpre hc
      rw [hcb]
      repeat' (first | (refine i_op ?_; first | (refine i_qq ?_; refine qQ ?_) | refine qEf ?_) | refine tl_nil ?_ | (refine i_tc ?_; refine qTc ?_) | (refine i_te ?_; refine qTe ?_) | intro _)
      refine te_front [(l, .loop r')] ?_
      refine te_leave (Lu := [[(b2, .cells ⟨[.pointer (some ⟨b, 0, none⟩)]⟩ 25 (0, 0))], [(b4, .cells ⟨[.int .i64 (D1.write (y.1 : Int) y.2).2]⟩ 33 (0, 0))]] ++ diskK b k2 (D1.write (y.1 : Int) y.2).1) rfl rfl (Hp.le_refl _) ⟨hrec'.tmps.trans hrec.tmps, hrec'.params.trans hrec.params, hrec'.assign.trans hrec.assign, hrec'.body.trans hrec.body⟩ tk tk inferInstance ?_
      exact ⟨rfl, _, k2, _, hl2, hc, hst, hD2, rfl⟩
  case done =>
    rintro D0 ρ1 Lu hl1 ⟨D1, k1, hl2, hwr, hD1, rfl⟩
    simp only [List.cons_append, List.nil_append]
    have hlay := hwr.lays []
    rw [List.append_nil, DS.lays] at hlay
    rw [hlay]
    repeat' (first | (refine tl_is (.func 87) ?_; refine qC rfl rfl (ksync _ b k1 D1 hD1) ?_; rintro v ρ' L' hle ⟨rfl, hl3, k2, hD2, rfl⟩ <;> (try simp only [List.cons_append, List.nil_append, List.append_eq])) | (refine i_op ?_; first | (refine i_qq ?_; refine qQ ?_) | refine qEf ?_) | refine tl_nil ?_ | (refine i_tc ?_; refine qTc ?_) | (refine i_te ?_; refine qTe ?_) | intro _)
    refine te_front [(D0, .deferred (some []))] ?_
    exact te_end_d rfl rfl rfl inferInstance (res1 rfl (r1_cell_s rfl rfl)) (Hp.le_trans hl2 hl3) tk (by infer_instance) (L' := S ++ diskK b k2 D1.sync.1) ⟨rfl, Hp.le_trans hl2 hl3, k2, hD2, rfl⟩
  case stop =>
    rintro D0 c ρ1 Lu hl1 ⟨rfl, D2, k2, e, hl2, he, hlay, hD2, rfl⟩
    simp only [List.cons_append, List.nil_append]
    have heb : (e != 0) = true := by simpa using he
    rw [hlay]
    repeat' (first | (refine i_op ?_; first | (refine i_qq ?_; refine qQ ?_) | refine qEf ?_) | refine tl_nil ?_ | (refine i_tc ?_; refine qTc ?_) | (refine i_te ?_; refine qTe ?_) | intro _)
    refine te_front [(D0, .deferred (some []))] ?_
    exact te_end_d rfl rfl rfl inferInstance (res1 rfl (r1_cell_s rfl rfl)) hl2 tk (by infer_instance) (L' := S ++ diskK b k2 D2) ⟨rfl, hl2, k2, hD2, rfl⟩
end Go.Proofs.E

namespace Go.Proofs.E
open Go
set_option linter.unusedVariables false
set_option linter.unusedSimpArgs false
set_option linter.unusedSectionVars false
set_option maxRecDepth 4000
set_option maxHeartbeats 1000000
attribute [local irreducible] Yl TL TC TE Spec YSpec R1 Hp.le EnvLe TS TR YS Stays
/-! ## what a row of writes leaves -/
def putAll (s : Secs) (l : List (Nat × Blk)) : Secs := l.foldl (fun s p => putC s p.1 p.2) s
theorem putAll_length (l : List (Nat × Blk)) : ∀ (s : Secs), (putAll s l).length = s.length := by
  induction l with
  | nil => intro s; rfl
  | cons p r ih => intro s; simp only [putAll, List.foldl_cons] at ih ⊢; rw [ih, putC_length]
theorem putC_at {s : Secs} {j i : Nat} {b : Blk} (hi : i < s.length) (h' : i < (putC s j b).length) : (putC s j b)[i] = if j = i then (s[i].1, some b) else s[i] := by
  simp only [putC, List.getElem_set]
  by_cases e : j = i
  · subst e; simp [hi]
  · simp [e]
theorem putAll_at : ∀ (l : List (Nat × Blk)) (s : Secs) (i : Nat) (hi : i < s.length) (h' : i < (putAll s l).length), (putAll s l)[i] = s[i] ∧ (∀ p ∈ l, p.1 ≠ i) ∨ ∃ p ∈ l, p.1 = i ∧ (putAll s l)[i] = (s[i].1, some p.2)
  | [], s, i, hi, h' => .inl ⟨rfl, by simp⟩
  | p :: r, s, i, hi, h' => by
    have h1 : i < (putC s p.1 p.2).length := by rw [putC_length]; exact hi
    have hat := putC_at hi h1
    rcases putAll_at r (putC s p.1 p.2) i h1 (by rw [putAll_length]; exact h1) with ⟨e1, e2⟩ | ⟨q, hq, e1, e2⟩
    · by_cases hp : p.1 = i
      · rw [if_pos hp] at hat
        exact .inr ⟨p, by simp, hp, by rw [← hat, ← e1]; rfl⟩
      · rw [if_neg hp] at hat
        refine .inl ⟨by rw [← hat, ← e1]; rfl, fun q hq => ?_⟩
        rcases List.mem_cons.1 hq with rfl | hq
        · exact hp
        · exact e2 q hq
    · refine .inr ⟨q, by simp [hq], e1, ?_⟩
      have : (putC s p.1 p.2)[i].1 = s[i].1 := by rw [hat]; split <;> rfl
      rw [← this, ← e2]; rfl
theorem lays_out : ∀ (l : List (Nat × Blk)) (D : DS), D.dead = false → (∀ p ∈ l, p.1 < D.secs.length) →
    (∃ l', l' <+: l ∧ (DS.lays l D).1.secs = putAll D.secs l' ∧ (DS.lays l D).2 ≠ 0) ∨
    ((DS.lays l D).1.secs = settled (fun _ => true) (putAll D.secs l) ∧ (DS.lays l D).2 = 0 ∧ (DS.lays l D).1.dead = false)
  | [], D, hd, _ => by
    simp only [DS.lays, DS.sync, hd, Bool.false_eq_true, if_false]
    split
    · exact .inl ⟨[], List.prefix_refl _, rfl, by simp⟩
    · split
      · exact .inl ⟨[], List.prefix_refl _, rfl, by simp⟩
      · exact .inr ⟨rfl, rfl, hd⟩
  | p :: r, D, hd, hl => by
    have hp := hl p (by simp)
    have hlt : ¬ ((p.1 : Int) < 0 ∨ (D.secs.length : Int) ≤ p.1) := by omega
    unfold DS.lays
    by_cases ha : D.armed = 0
    · have hw : D.write p.1 p.2 = ({ D.tick with dead := true, secs := putC D.secs p.1 p.2 }, 9) := by
        unfold DS.write
        rw [if_neg (by simp [hd]), if_neg hlt, if_pos ha]; rfl
      rw [hw]
      rw [if_neg (by simp)]
      exact .inl ⟨[p], ⟨r, rfl⟩, rfl, by simp⟩
    · by_cases hf : D.failing = 0
      · have hw : D.write p.1 p.2 = (D.tick, 8) := by
          unfold DS.write
          rw [if_neg (by simp [hd]), if_neg hlt, if_neg ha, if_pos hf]
        rw [hw]
        rw [if_neg (by simp)]
        exact .inl ⟨[], ⟨p :: r, rfl⟩, rfl, by simp⟩
      · have hw : D.write p.1 p.2 = ({ D.tick with armed := cnt D.armed, secs := putC D.secs p.1 p.2 }, 0) := by
          unfold DS.write
          rw [if_neg (by simp [hd]), if_neg hlt, if_neg ha, if_neg hf]; rfl
        rw [hw, if_pos rfl]
        have ih := lays_out r { D.tick with armed := cnt D.armed, secs := putC D.secs p.1 p.2 } hd (fun q hq => by simp only [putC_length]; exact hl q (by simp [hq]))
        rcases ih with ⟨l', ⟨t, ht⟩, h2, h3⟩ | h
        · exact .inl ⟨p :: l', ⟨t, by rw [← ht]; rfl⟩, h2, h3⟩
        · exact .inr h
/-- a disk that has nothing in its cache, and on which nothing is to happen -/
theorem Calm_lays : ∀ (l : List (Nat × Blk)) (D : DS), D.Calm → (∀ p ∈ l, p.1 < D.secs.length) → (DS.lays l D).2 = 0 ∧ (DS.lays l D).1.Calm ∧ (DS.lays l D).1.secs = settled (fun _ => true) (putAll D.secs l)
  | [], D, h, _ => by
    rw [DS.lays, h.sync_eq]
    exact ⟨rfl, ⟨rfl, rfl, rfl⟩, rfl⟩
  | p :: r, D, h, hl => by
    have hp := hl p (by simp)
    unfold DS.lays
    rw [h.write_eq hp, if_pos rfl]
    exact Calm_lays r _ ⟨rfl, rfl, rfl⟩ (fun q hq => by simp only [putC_length]; exact hl q (by simp [hq]))
/-- what a sector says behind a settling -/
theorem settled_one {keep : Nat → Bool} {s : Secs} {i : Nat} (he : emptyC s) (l : List (Nat × Blk)) (hi : i < s.length) (h' : i < (settled keep (putAll s l)).length) :
    (settled keep (putAll s l))[i] = s[i] ∨ ∃ p ∈ l, p.1 = i ∧ (settled keep (putAll s l))[i] = (p.2, none) := by
  have hp : i < (putAll s l).length := by rw [putAll_length]; exact hi
  have hn := he s[i] (List.getElem_mem hi)
  rw [settled_at hp h']
  rcases putAll_at l s i hi hp with ⟨e, _⟩ | ⟨p, hm, e1, e2⟩
  · left
    have hip : isP (putAll s l) i = false := by simp [isP, hp, e, hn]
    rw [hip, e]
    simp only [Bool.false_and, Bool.false_eq_true, if_false]
    rw [← hn]
  · have hip : isP (putAll s l) i = true := by simp [isP, hp, e2]
    rw [hip, e2]
    cases hk : keep (pendTo (putAll s l) i).length with
    | false => left; simp [← hn]
    | true => right; exact ⟨p, hm, e1, by simp⟩
theorem settled_all {s : Secs} {i : Nat} (he : emptyC s) (l : List (Nat × Blk)) (hi : i < s.length) (h' : i < (settled (fun _ => true) (putAll s l)).length) :
    (settled (fun _ => true) (putAll s l))[i] = s[i] ∧ (∀ p ∈ l, p.1 ≠ i) ∨ ∃ p ∈ l, p.1 = i ∧ (settled (fun _ => true) (putAll s l))[i] = (p.2, none) := by
  have hp : i < (putAll s l).length := by rw [putAll_length]; exact hi
  have hn := he s[i] (List.getElem_mem hi)
  rw [settled_at hp h']
  rcases putAll_at l s i hi hp with ⟨e, h2⟩ | ⟨p, hm, e1, e2⟩
  · left
    have hip : isP (putAll s l) i = false := by simp [isP, hp, e, hn]
    rw [hip, e]
    simp only [Bool.false_and, Bool.false_eq_true, if_false]
    exact ⟨by rw [← hn], h2⟩
  · have hip : isP (putAll s l) i = true := by simp [isP, hp, e2]
    rw [hip, e2]
    right; exact ⟨p, hm, e1, by simp⟩
end Go.Proofs.E

namespace Go.Proofs.E
open Go
set_option linter.unusedVariables false
set_option linter.unusedSimpArgs false
set_option linter.unusedSectionVars false
set_option maxRecDepth 4000
set_option maxHeartbeats 1000000
attribute [local irreducible] Yl TL TC TE Spec YSpec R1 Hp.le EnvLe TS TR YS Stays
/-! ## sectors, read and laid -/
theorem mid {A B C : Bs} {n m : Nat} (hA : A.length = n) (hB : B.length = m) : ((A ++ (B ++ C)).drop n).take m = B := by
  subst hA; subst hB; rw [List.drop_left, List.take_left]
theorem fit52 (l : Bs) : fitB 52 l = l.take 52 ++ z8 (52 - l.length) := by
  unfold fitB z8
  rw [List.take_append, List.take_replicate]
  congr 2; omega
theorem pad_drop {x l : Bs} (hx : x.length = 12) (hl : l.length ≤ 52) : (pad (x ++ l)).drop 12 = fitB 52 l := by
  rw [pad_of (by simp; omega), ← hx, List.append_assoc, List.drop_left, fit52, List.take_of_length_le hl]
  congr 2; simp; omega
theorem partB_eq (t n : Nat) (b : Bs) (k : Nat) : partB t n b k = pad ((be 4 t ++ (be 5 n ++ (be 2 b.length ++ [UInt8.ofNat k]))) ++ (b.drop (52 * k)).take 52) := by
  unfold partB; simp
theorem partB_drop (t n : Nat) (b : Bs) (k : Nat) : (partB t n b k).drop 12 = fitB 52 (b.drop (52 * k)) := by
  rw [partB_eq, pad_drop (by simp [be_length]) (by simp; omega), fit52, fit52, List.take_take]
  congr 2
  simp; omega
theorem partB_congr {t n : Nat} {b c : Bs} {k : Nat} (hl : b.length = c.length) (h : (b.drop (52 * k)).take 52 = (c.drop (52 * k)).take 52) : partB t n b k = partB t n c k := by
  unfold partB; rw [hl, h]
theorem pad_pre {x l : Bs} {n : Nat} (hx : x.length ≤ n) (hn : n ≤ 64) : True := trivial
theorem partB_turn {t n : Nat} {b : Bs} {k : Nat} (ht : t < 4294967296) : turnOf (partB t n b k) = t := by
  have h : (partB t n b k).take 4 = be 4 t := by
    unfold partB pad
    rw [List.append_assoc, List.take_take, Nat.min_eq_left (by omega), List.take_left' (be_length 4 t)]
  unfold turnOf
  rw [h, unbe_be, Nat.mod_eq_of_lt (by simpa using ht)]
theorem partB_num {t n : Nat} {b : Bs} {k : Nat} (hn : n < 1099511627776) : numOf (partB t n b k) = n := by
  have h : ((partB t n b k).drop 4).take 5 = be 5 n := by
    unfold partB pad
    rw [List.drop_take, List.take_take, Nat.min_eq_left (by omega)]
    simp only [List.append_assoc]
    exact mid (be_length 4 t) (be_length 5 n)
  unfold numOf
  rw [h, unbe_be, Nat.mod_eq_of_lt (by simpa using hn)]
theorem partB_size {t n : Nat} {b : Bs} {k : Nat} (hn : b.length < 65536) : sizeOf' (partB t n b k) = b.length := by
  have h : ((partB t n b k).drop 9).take 2 = be 2 b.length := by
    unfold partB pad
    rw [List.drop_take, List.take_take, Nat.min_eq_left (by omega)]
    simp only [List.append_assoc]
    rw [← List.append_assoc (be 4 t)]
    exact mid (by simp [be_length]) (be_length 2 _)
  unfold sizeOf'
  rw [h, unbe_be, Nat.mod_eq_of_lt (by simpa using hn)]
theorem sects_mul {n k : Nat} (h : k < sects n) : 52 * k < n ∨ (k = 0 ∧ n = 0) := by unfold sects at h; omega
theorem sects_end (n : Nat) : n ≤ 52 * sects n := by unfold sects; omega
/-- what is laid of bytes behind k sectors -/
theorem fit_step {size k : Nat} {b acc : Bs} (hb : b.length = size) (hk : k < sects size) (hl : acc.length = 52 * k) (h : acc.take size = b.take (52 * k)) :
    (acc ++ fitB 52 (b.drop (52 * k))).take size = b.take (52 * (k + 1)) := by
  have hm : 52 * k ≤ size := by rcases sects_mul hk with h | h <;> omega
  have ha : acc = b.take (52 * k) := by rw [← h, List.take_of_length_le (by omega)]
  rw [List.take_append, List.take_of_length_le (by omega), hl, ha]
  by_cases h52 : 52 * (k + 1) ≤ size
  · have e : fitB 52 (b.drop (52 * k)) = (b.drop (52 * k)).take 52 := by
      rw [fit52]
      have : 52 - (b.drop (52 * k)).length = 0 := by simp; omega
      rw [this]; simp [z8]
    rw [e, List.take_take, Nat.min_eq_right (by omega), Nat.mul_add, Nat.mul_one, List.take_add]
  · have e : (fitB 52 (b.drop (52 * k))).take (size - 52 * k) = b.drop (52 * k) := by
      rw [fit52, List.take_of_length_le (l := b.drop (52 * k)) (by simp; omega), List.take_append_of_le_length (by simp; omega), List.take_of_length_le (by simp; omega)]
    rw [e, List.take_append_drop, List.take_of_length_le (by omega)]
theorem fit_of {size k : Nat} {b acc : Bs} (hb : b.length = size) (hl : acc.length = 52 * k) (h : acc.take size = b.take (52 * k)) : fitB size acc = b.take (52 * k) ++ z8 (size - 52 * k) := by
  unfold fitB z8
  rw [List.take_append, h, List.take_replicate, hl]
  congr 2; omega
theorem part_fit {t n size k : Nat} {b acc : Bs} (hb : b.length = size) (hl : acc.length = 52 * (k + 1)) (h : acc.take size = b.take (52 * (k + 1))) : partB t n (fitB size acc) k = partB t n b k := by
  refine partB_congr (by rw [fitB_len, hb]) ?_
  rw [fit_of hb hl h]
  by_cases h52 : 52 * (k + 1) ≤ size
  · rw [List.drop_append_of_le_length (by simp; omega), List.take_append_of_le_length (by simp; omega), List.drop_take, List.take_take]
    congr 1; omega
  · have e : size - 52 * (k + 1) = 0 := by omega
    rw [e]
    simp only [z8, List.replicate_zero, List.append_nil]
    rw [List.drop_take, List.take_take]
    congr 1; omega
/-! ## a scan over sectors that stay -/
def entP (g : Nat → Blk) (m n at' turn size : Nat) : Nat → Nat → Bs → Option Bs
  | 0, _, acc => some (fitB size acc)
  | j + 1, k, acc => if partB turn n (fitB size (acc ++ (g (2 + (at' + k) % m)).drop 12)) k = g (2 + (at' + k) % m) then entP g m n at' turn size j (k + 1) (acc ++ (g (2 + (at' + k) % m)).drop 12) else none
theorem entP_some {g : Nat → Blk} {m n at' t size : Nat} {b : Bs} (hb : b.length = size) (hg : ∀ k, k < sects size → g (2 + (at' + k) % m) = partB t n b k) :
    ∀ (j k : Nat) (acc : Bs), j + k = sects size → acc.length = 52 * k → acc.take size = b.take (52 * k) → entP g m n at' t size j k acc = some b
  | 0, k, acc, hjk, hl, h => by
    have hk : k = sects size := by omega
    have he := sects_end size
    subst hk
    rw [entP, fit_of hb hl h, List.take_of_length_le (by omega)]
    have e : size - 52 * sects size = 0 := by omega
    rw [e]; simp [z8]
  | j + 1, k, acc, hjk, hl, h => by
    have hk : k < sects size := by omega
    have hgk := hg k hk
    have hst := fit_step hb hk hl h
    have hl2 : (acc ++ (partB t n b k).drop 12).length = 52 * (k + 1) := by simp [partB_len, hl]; omega
    rw [entP, hgk, if_pos]
    · exact entP_some hb hg j (k + 1) _ (by omega) hl2 (by rw [partB_drop]; exact hst)
    · exact part_fit hb hl2 (by rw [partB_drop]; exact hst)
theorem entP_inv {g : Nat → Blk} {m n at' t size : Nat} {b : Bs} (hg64 : ∀ q, (g (2 + q % m)).length = 64) : ∀ (j k : Nat) (acc : Bs), j + k = sects size → acc.length = 52 * k → entP g m n at' t size j k acc = some b →
    b.length = size ∧ acc.take size = b.take (52 * k) ∧ ∀ i, k ≤ i → i < sects size → g (2 + (at' + i) % m) = partB t n b i
  | 0, k, acc, hjk, hl, h => by
    have hk : k = sects size := by omega
    have he := sects_end size
    subst hk
    simp only [entP, Option.some.injEq] at h
    subst h
    refine ⟨fitB_len _ _, ?_, fun i h1 h2 => by omega⟩
    have : fitB size acc = acc.take size := by
      unfold fitB; rw [List.take_append_of_le_length (by omega)]
    rw [this, List.take_take, Nat.min_eq_right (by omega)]
  | j + 1, k, acc, hjk, hl, h => by
    have hk : k < sects size := by omega
    rw [entP] at h
    split at h
    · rename_i hp
      have hl2 : (acc ++ (g (2 + (at' + k) % m)).drop 12).length = 52 * (k + 1) := by simp [hg64, hl]; omega
      obtain ⟨h1, h2, h3⟩ := entP_inv hg64 j (k + 1) _ (by omega) hl2 h
      have hm : 52 * k ≤ size := by rcases sects_mul hk with h | h <;> omega
      refine ⟨h1, ?_, fun i hi1 hi2 => ?_⟩
      · have := congrArg (fun l : Bs => l.take (52 * k)) h2
        simp only [List.take_take] at this
        rw [Nat.min_eq_left hm, Nat.min_eq_left (by omega), List.take_append_of_le_length (by omega)] at this
        rw [← this, List.take_of_length_le (by omega), List.take_of_length_le (by omega)]
      · by_cases e : i = k
        · subst e; rw [← hp, part_fit h1 hl2 h2]
        · exact h3 i (by omega) hi2
    · cases h
def entP0 (g : Nat → Blk) (m T n at' left : Nat) : Option Bs :=
  if left = 0 then none
  else if turnOf (g (2 + at' % m)) < 1 ∨ T < turnOf (g (2 + at' % m)) ∨ 8000 < sizeOf' (g (2 + at' % m)) ∨ left < sects (sizeOf' (g (2 + at' % m))) then none
  else entP g m n at' (turnOf (g (2 + at' % m))) (sizeOf' (g (2 + at' % m))) (sects (sizeOf' (g (2 + at' % m)))) 0 []
theorem entP0_some {g : Nat → Blk} {m T n at' left t : Nat} {b : Bs} (ht : 1 ≤ t ∧ t ≤ T) (hT : T < 4294967296) (hb : b.length ≤ 8000) (hleft : sects b.length ≤ left) (hg : ∀ k, k < sects b.length → g (2 + (at' + k) % m) = partB t n b k) :
    entP0 g m T n at' left = some b := by
  have hp := sects_pos b.length
  have h0 := hg 0 (by omega)
  rw [Nat.add_zero] at h0
  unfold entP0
  rw [h0, partB_turn (by omega), partB_size (by omega), if_neg (by omega), if_neg (by omega)]
  exact entP_some rfl hg _ 0 [] (by omega) rfl (by simp)
theorem entP0_inv {g : Nat → Blk} {m T n at' left : Nat} {b : Bs} (hg64 : ∀ q, (g (2 + q % m)).length = 64) (h : entP0 g m T n at' left = some b) :
    ∃ t, 1 ≤ t ∧ t ≤ T ∧ b.length ≤ 8000 ∧ sects b.length ≤ left ∧ ∀ k, k < sects b.length → g (2 + (at' + k) % m) = partB t n b k := by
  unfold entP0 at h
  split at h
  · cases h
  · split at h
    · cases h
    · rename_i h1 h2
      obtain ⟨g1, g2, g3⟩ := entP_inv hg64 _ 0 [] (by omega) rfl h
      exact ⟨_, by omega, by omega, by omega, by rw [g1]; omega, fun k hk => g3 k (by omega) (by rw [← g1]; exact hk)⟩
/-- there is nothing whole of that number from a place on -/
def NoAt (g : Nat → Blk) (m pos n : Nat) : Prop := ∀ t b, 1 ≤ t → t ≤ 1073741824 → b.length ≤ 8000 → sects b.length ≤ m → ∃ k, k < sects b.length ∧ g (2 + (pos + k) % m) ≠ partB t n b k
theorem NoAt.scan {g : Nat → Blk} {m T n pos left : Nat} (h : NoAt g m pos n) (hg64 : ∀ q, (g (2 + q % m)).length = 64) (hl : left ≤ m) (hT : T ≤ 1073741824) : entP0 g m T n pos left = none := by
  cases he : entP0 g m T n pos left with
  | none => rfl
  | some b =>
    obtain ⟨t, h1, h2, h3, h4, h5⟩ := entP0_inv hg64 he
    obtain ⟨k, hk, hne⟩ := h t b h1 (by omega) h3 (by omega)
    exact absurd (h5 k hk) hne
def Has (g : Nat → Blk) (m T : Nat) : Nat → Nat → List Bs → Prop
  | _, _, [] => True
  | n, pos, b :: r => (∃ t, 1 ≤ t ∧ t ≤ T ∧ ∀ k, k < sects b.length → g (2 + (pos + k) % m) = partB t n b k) ∧ Has g m T (n + 1) (pos + sects b.length) r
theorem Has.frame {g g' : Nat → Blk} {m T : Nat} : ∀ {l : List Bs} {n pos pos' : Nat}, Has g m T n pos l → pos % m = pos' % m → (∀ j, j < usedL l → g' (2 + (pos + j) % m) = g (2 + (pos + j) % m)) → Has g' m T n pos' l
  | [], n, pos, pos', _, _, _ => trivial
  | b :: r, n, pos, pos', ⟨⟨t, h1, h2, h3⟩, h4⟩, hp, hg => by
    rw [usedL_cons] at hg
    refine ⟨⟨t, h1, h2, fun k hk => ?_⟩, ?_⟩
    · have e : (pos' + k) % m = (pos + k) % m := by rw [Nat.add_mod, ← hp, ← Nat.add_mod]
      rw [e, hg k (by omega), h3 k hk]
    · refine h4.frame (by rw [Nat.add_mod, hp, ← Nat.add_mod]) (fun j hj => ?_)
      have := hg (sects b.length + j) (by omega)
      rw [← Nat.add_assoc] at this; exact this
theorem Has.le {g : Nat → Blk} {m T T' : Nat} (hT : T ≤ T') : ∀ {l : List Bs} {n pos : Nat}, Has g m T n pos l → Has g m T' n pos l
  | [], _, _, _ => trivial
  | b :: r, n, pos, ⟨⟨t, h1, h2, h3⟩, h4⟩ => ⟨⟨t, h1, by omega, h3⟩, h4.le hT⟩
theorem Has.append {g : Nat → Blk} {m T : Nat} : ∀ {l l' : List Bs} {n pos : Nat}, Has g m T n pos l → Has g m T (n + l.length) (pos + usedL l) l' → Has g m T n pos (l ++ l')
  | [], l', n, pos, _, h => by simpa [usedL] using h
  | b :: r, l', n, pos, ⟨h1, h2⟩, h => by
    refine ⟨h1, h2.append ?_⟩
    rw [usedL_cons] at h
    rw [show n + 1 + r.length = n + (b :: r).length by simp; omega, Nat.add_assoc]; exact h
theorem Has.drop {g : Nat → Blk} {m T : Nat} : ∀ {l : List Bs} {n pos : Nat} (i : Nat), Has g m T n pos l → i ≤ l.length → Has g m T (n + i) (pos + usedL (l.take i)) (l.drop i)
  | l, n, pos, 0, h, _ => by simpa [usedL] using h
  | [], n, pos, i + 1, h, hi => by simp at hi
  | b :: r, n, pos, i + 1, ⟨h1, h2⟩, hi => by
    have := h2.drop i (by simpa using hi)
    simp only [List.take_succ_cons, List.drop_succ_cons, usedL_cons]
    rw [show n + (i + 1) = n + 1 + i by omega, ← Nat.add_assoc]; exact this
end Go.Proofs.E

namespace Go.Proofs.E
open Go
set_option linter.unusedVariables false
set_option linter.unusedSimpArgs false
set_option linter.unusedSectionVars false
set_option maxRecDepth 4000
set_option maxHeartbeats 1000000
attribute [local irreducible] Yl TL TC TE Spec YSpec R1 Hp.le EnvLe TS TR YS Stays
/-! ## disks with nothing in their caches -/
def img (D : DS) (i : Nat) : Blk := (D.secs[i]?.map (·.1)).getD (z8 64)
theorem img_at {D : DS} {i : Nat} (hi : i < D.secs.length) : img D i = D.secs[i].1 := by simp [img, hi]
theorem img_len {D : DS} (h : D.Ok) (i : Nat) : (img D i).length = 64 := by
  unfold img
  cases hs : D.secs[i]? with
  | none => simp [z8]
  | some p => simpa using h.secs.held p (List.mem_of_getElem? hs)
theorem img_congr {D D' : DS} (h : D'.secs = D.secs) : img D' = img D := by funext i; simp [img, h]
structure DS.Clean (D : DS) : Prop where
  ok : D.Ok
  calm : D.Calm
  empty : emptyC D.secs
theorem DS.Clean.read {D : DS} (h : D.Clean) {i : Nat} (hi : i < D.secs.length) : ∃ D', D.read (i : Int) = (D', img D i, 0) ∧ D'.Clean ∧ D'.secs = D.secs := by
  refine ⟨⟨D.secs, IntKind.i64.wrap (D.ops + 1), -1, -1, false⟩, ?_, ⟨DS.Ok.mk' h.ok.secs, DS.Calm.mk', h.empty⟩, rfl⟩
  · rw [h.calm.read_eq hi, img_at hi]
    simp [says1, h.empty _ (List.getElem_mem hi)]
theorem entGo_clean {h : Hd} {n at' t size : Nat} (hm : 0 < h.size) : ∀ (j k : Nat) (acc : Bs) (D : DS), D.Clean → h.size + 2 ≤ D.secs.length →
    ∃ D', entGo h n at' t size j k acc D = (entP (img D) h.size n at' t size j k acc, D', 0) ∧ D'.Clean ∧ D'.secs = D.secs
  | 0, k, acc, D, hD, hl => ⟨D, rfl, hD, rfl⟩
  | j + 1, k, acc, D, hD, hl => by
    have hlt : 2 + (at' + k) % h.size < D.secs.length := by have := Nat.mod_lt (at' + k) hm; omega
    obtain ⟨D1, e1, h1, h2⟩ := hD.read hlt
    unfold entGo entP
    rw [e1]
    rw [if_neg (by simp)]
    by_cases hp : partB t n (fitB size (acc ++ (img D (2 + (at' + k) % h.size)).drop 12)) k = img D (2 + (at' + k) % h.size)
    · rw [if_pos hp, if_pos hp]
      obtain ⟨D2, e2, h3, h4⟩ := entGo_clean hm j (k + 1) (acc ++ (img D (2 + (at' + k) % h.size)).drop 12) D1 h1 (by rw [h2]; exact hl)
      rw [img_congr h2] at e2
      exact ⟨D2, e2, h3, h4.trans h2⟩
    · rw [if_neg hp, if_neg hp]
      exact ⟨D1, rfl, h1, h2⟩
theorem entryR_clean {h : Hd} {n at' left : Nat} (hm : 0 < h.size) {D : DS} (hD : D.Clean) (hl : h.size + 2 ≤ D.secs.length) :
    ∃ D', entryR h n at' left D = (entP0 (img D) h.size h.turn n at' left, D', 0) ∧ D'.Clean ∧ D'.secs = D.secs := by
  unfold entryR entP0
  split
  · exact ⟨D, rfl, hD, rfl⟩
  · have hlt : 2 + at' % h.size < D.secs.length := by have := Nat.mod_lt at' hm; omega
    obtain ⟨D1, e1, h1, h2⟩ := hD.read hlt
    rw [e1, if_neg (by simp)]
    unfold entGo0
    split
    · exact ⟨D1, rfl, h1, h2⟩
    · have hs := sects_pos (sizeOf' (img D (2 + at' % h.size)))
      have e : sects (sizeOf' (img D (2 + at' % h.size))) = (sects (sizeOf' (img D (2 + at' % h.size))) - 1) + 1 := by omega
      rw [e, entP]
      simp only [Nat.add_zero, List.nil_append, Nat.zero_add, Nat.add_sub_cancel]
      split
      · obtain ⟨D2, e2, h3, h4⟩ := entGo_clean (n := n) (at' := at') (t := turnOf (img D (2 + at' % h.size))) (size := sizeOf' (img D (2 + at' % h.size))) hm (sects (sizeOf' (img D (2 + at' % h.size))) - 1) 1 ((img D (2 + at' % h.size)).drop 12) D1 h1 (by rw [h2]; exact hl)
        rw [img_congr h2] at e2
        exact ⟨D2, e2, h3, h4.trans h2⟩
      · exact ⟨D1, rfl, h1, h2⟩
theorem found_clean : ∀ (l : List Bs) (f : Nat) (R : RgS) (D : DS), D.Clean → 0 < R.h.size → R.h.size + 2 ≤ D.secs.length → R.h.turn ≤ 1073741824 → Has (img D) R.h.size R.h.turn R.next (R.h.place + R.used) l → (∀ b ∈ l, b.length ≤ 8000) →
    R.used + usedL l ≤ R.h.size → (R.next + l.length < 1099511627776 → NoAt (img D) R.h.size (R.h.place + R.used + usedL l) (R.next + l.length)) → R.next + l.length ≤ 1099511627776 → l.length < f →
    ∃ D', foundGo f R D = ({ R with ents := R.ents ++ l, used := R.used + usedL l }, D', 0) ∧ D'.Clean ∧ D'.secs = D.secs
  | _, 0, _, _, _, _, _, _, _, _, _, _, _, h => by omega
  | [], f + 1, R, D, hD, hm, hl, hT, _, _, hfit, hno, hn, hf => by
    unfold foundGo
    have hR : ({ R with ents := R.ents ++ [], used := R.used + usedL [] } : RgS) = R := by simp [usedL]
    rw [hR]
    by_cases hlt : R.next < 1099511627776
    · rw [if_pos hlt]
      obtain ⟨D', e1, h1, h2⟩ := entryR_clean (h := R.h) (n := R.next) (at' := R.h.place + R.used) (left := R.h.size - R.used) hm hD hl
      have := (hno (by simpa using hlt)).scan (T := R.h.turn) (left := R.h.size - R.used) (fun q => img_len hD.ok _) (by omega) hT
      simp only [usedL, List.map_nil, List.sum_nil, Nat.add_zero, List.length_nil] at this
      rw [e1, this]
      exact ⟨D', rfl, h1, h2⟩
    · rw [if_neg hlt]
      exact ⟨D, rfl, hD, rfl⟩
  | b :: r, f + 1, R, D, hD, hm, hl, hT, hhas, hlong, hfit, hno, hn, hf => by
    obtain ⟨⟨t, h1, h2, h3⟩, h4⟩ := hhas
    simp only [usedL_cons] at hfit hno
    simp only [List.length_cons] at hn hno hf
    unfold foundGo
    rw [if_pos (by omega)]
    obtain ⟨D1, e1, g1, g2⟩ := entryR_clean (h := R.h) (n := R.next) (at' := R.h.place + R.used) (left := R.h.size - R.used) hm hD hl
    rw [entP0_some ⟨h1, h2⟩ (by omega) (hlong b (by simp)) (by omega) h3] at e1
    rw [e1]
    simp only [if_true]
    have hnx : (R.adds b).next = R.next + 1 := by simp [RgS.adds, RgS.next]; omega
    obtain ⟨D2, e2, g3, g4⟩ := found_clean r f (R.adds b) D1 g1 hm (by rw [g2]; exact hl) hT (by
      rw [hnx, img_congr g2]
      have : (R.adds b).h.place + (R.adds b).used = R.h.place + R.used + sects b.length := by simp [RgS.adds]; omega
      rw [this]; exact h4) (fun c hc => hlong c (by simp [hc])) (by simp only [RgS.adds]; omega) (fun hlt => by
      rw [hnx, img_congr g2] at *
      have e : (R.adds b).h.place + (R.adds b).used + usedL r = R.h.place + R.used + (sects b.length + usedL r) := by simp [RgS.adds]; omega
      rw [e, show R.next + 1 + r.length = R.next + (r.length + 1) by omega]
      exact hno (by omega)) (by rw [hnx]; omega) (by omega)
    refine ⟨D2, ?_, g3, g4.trans g2⟩
    rw [e2]
    simp [RgS.adds, usedL_cons, Nat.add_assoc]
/-! ## heads -/
theorem headB_eq {h : Hd} (hn : h.note.length ≤ 32) : headB h = letB ++ (be 4 h.turn ++ (be 2 h.size ++ (be 5 h.first ++ (be 2 h.place ++ ([UInt8.ofNat h.note.length] ++ (h.note ++ z8 (42 - h.note.length))))))) := by
  unfold headB
  rw [pad_of (by simp [be_length, letB]; omega)]
  simp only [List.append_assoc, List.cons_append, List.nil_append]
  have e : 64 - (letB ++ (be 4 h.turn ++ (be 2 h.size ++ (be 5 h.first ++ (be 2 h.place ++ (UInt8.ofNat h.note.length :: h.note)))))).length = 42 - h.note.length := by simp [be_length, letB]; omega
  rw [e]
theorem headOf_headB {h : Hd} (hr : h.Right h.note.length) (hf : h.first < 1099511627776) : headOf (headB h) = h ∧ ((headB h).getD 21 0).toNat = h.note.length := by
  obtain ⟨h1, h2, h3, h4, h5, h6, h7, h8⟩ := hr
  have e := headB_eq h8
  have hl : letB.length = 8 := rfl
  have hb4 := be_length 4 h.turn
  have hb2 := be_length 2 h.size
  have hb5 := be_length 5 h.first
  have hbp := be_length 2 h.place
  have hn8 : h.note.length < 256 := by omega
  have e21 : (headB h).getD 21 0 = UInt8.ofNat h.note.length := by
    rw [e, ← List.append_assoc, ← List.append_assoc, ← List.append_assoc, ← List.append_assoc]
    rw [List.getD_eq_getElem?_getD, List.getElem?_append_right (by simp [hl, hb4, hb2, hb5, hbp])]
    simp [hl, hb4, hb2, hb5, hbp]
  have en : (UInt8.ofNat h.note.length).toNat = h.note.length := by simp; omega
  refine ⟨?_, by rw [e21, en]⟩
  unfold headOf
  have f1 : ((headB h).drop 8).take 4 = be 4 h.turn := by rw [e]; exact mid hl hb4
  have f2 : ((headB h).drop 12).take 2 = be 2 h.size := by
    rw [e, ← List.append_assoc]; exact mid (by simp [hl, hb4]) hb2
  have f3 : ((headB h).drop 14).take 5 = be 5 h.first := by
    rw [e, ← List.append_assoc, ← List.append_assoc]; exact mid (by simp [hl, hb4, hb2]) hb5
  have f4 : ((headB h).drop 19).take 2 = be 2 h.place := by
    rw [e, ← List.append_assoc, ← List.append_assoc, ← List.append_assoc]; exact mid (by simp [hl, hb4, hb2, hb5]) hbp
  have f5 : ((headB h).drop 22).take h.note.length = h.note := by
    rw [e, ← List.append_assoc, ← List.append_assoc, ← List.append_assoc, ← List.append_assoc, ← List.append_assoc]; exact mid (by simp [hl, hb4, hb2, hb5, hbp]) rfl
  have g1 : h.turn % 256 ^ 4 = h.turn := Nat.mod_eq_of_lt (by simp; omega)
  have g2 : h.size % 256 ^ 2 = h.size := Nat.mod_eq_of_lt (by simp; omega)
  have g3 : h.first % 256 ^ 5 = h.first := Nat.mod_eq_of_lt (by simp; omega)
  have g4 : h.place % 256 ^ 2 = h.place := Nat.mod_eq_of_lt (by simp; omega)
  rw [e21, en, f1, f2, f3, f4, f5, unbe_be, unbe_be, unbe_be, unbe_be, g1, g2, g3, g4]
theorem readB_headB {h : Hd} (hr : h.Right h.note.length) (hf : h.first < 1099511627776) : readB (headB h) = (h, true) := by
  obtain ⟨h1, h2⟩ := headOf_headB hr hf
  unfold readB
  rw [h1, h2, if_pos hr]; simp
theorem RgS.Ok.right {R : RgS} (h : R.Ok) : R.h.Right R.h.note.length := ⟨h.turn.1, h.turn.2, h.size.1, h.size.2, h.first, by have := h.next; unfold RgS.next at this; omega, h.place, h.note⟩
end Go.Proofs.E

namespace Go.Proofs.E
open Go
set_option linter.unusedVariables false
set_option linter.unusedSimpArgs false
set_option linter.unusedSectionVars false
set_option maxRecDepth 4000
set_option maxHeartbeats 1000000
attribute [local irreducible] Yl TL TC TE Spec YSpec R1 Hp.le EnvLe TS TR YS Stays
/-! ## what a disk says of a ring -/
structure RO (R : RgS) (D : DS) : Prop where
  ok : R.Ok
  live : R.broken = false
  num : R.h.first < 1099511627776
  dok : D.Ok
  alive : D.dead = false
  empty : emptyC D.secs
  len : R.h.size + 2 ≤ D.secs.length
  head : img D (R.h.turn % 2) = headB R.h
  other : (readB (img D ((R.h.turn + 1) % 2))).2 = true → (readB (img D ((R.h.turn + 1) % 2))).1.turn < R.h.turn
  has : Has (img D) R.h.size R.h.turn R.h.first R.h.place R.ents
  none : R.next < 1099511627776 → NoAt (img D) R.h.size (R.h.place + R.used) R.next
  bound : ∀ q, q < R.h.size → turnOf (img D (2 + q)) ≤ R.h.turn ∧ numOf (img D (2 + q)) ≤ R.next
/-- and nothing of the entry that is next was written in this turn -/
def Frs (R : RgS) (D : DS) : Prop := ∀ q, q < R.h.size → ¬ (turnOf (img D (2 + q)) = R.h.turn ∧ numOf (img D (2 + q)) = R.next)
theorem mod2 (t : Nat) : t % 2 = 0 ∧ (t + 1) % 2 = 1 ∨ t % 2 = 1 ∧ (t + 1) % 2 = 0 := by omega
theorem RO.counts {R : RgS} {D : DS} (h : RO R D) : countsB (img D 0) (img D 1) = (R.h, true) := by
  have hr := readB_headB h.ok.right h.num
  have ho := h.other
  have hh := h.head
  rcases mod2 R.h.turn with ⟨e1, e2⟩ | ⟨e1, e2⟩
  · rw [e1] at hh; rw [e2] at ho
    unfold countsB
    rw [hh, hr]
    cases hy : (readB (img D 1)).2 with
    | false => simp
    | true => have := ho hy; simp; omega
  · rw [e1] at hh; rw [e2] at ho
    unfold countsB
    rw [hh, hr]
    cases hy : (readB (img D 0)).2 with
    | false => simp
    | true => have := ho hy; simp; omega
/-- what is on a disk behind writes, settled by some of them -/
theorem img_settled {s : Secs} {keep : Nat → Bool} {D : DS} {l : List (Nat × Blk)} (he : emptyC s) (hs : D.secs = settled keep (putAll s l)) (D0 : DS) (h0 : D0.secs = s) (i : Nat) : img D i = img D0 i ∨ ∃ p ∈ l, p.1 = i ∧ img D i = p.2 := by
  by_cases hi : i < s.length
  · have hl : i < D.secs.length := by rw [hs, settled_length, putAll_length]; exact hi
    have h' : i < (settled keep (putAll s l)).length := by rw [settled_length, putAll_length]; exact hi
    have e1 : img D i = (settled keep (putAll s l))[i].1 := by rw [img_at hl]; congr 1; simp [hs]
    have e2 : img D0 i = s[i].1 := by rw [img_at (by rw [h0]; exact hi)]; simp [h0]
    rcases settled_one (keep := keep) he l hi h' with h | ⟨p, hp, h1, h2⟩
    · left; rw [e1, e2, h]
    · right; exact ⟨p, hp, h1, by rw [e1, h2]⟩
  · left
    have a : D.secs[i]? = none := List.getElem?_eq_none (by rw [hs, settled_length, putAll_length]; omega)
    have b : D0.secs[i]? = none := List.getElem?_eq_none (by rw [h0]; omega)
    unfold img; rw [a, b]
theorem img_all {s : Secs} {D : DS} {l : List (Nat × Blk)} (he : emptyC s) (hs : D.secs = settled (fun _ => true) (putAll s l)) (D0 : DS) (h0 : D0.secs = s) {i : Nat} (hi : i < s.length) : (img D i = img D0 i ∧ ∀ p ∈ l, p.1 ≠ i) ∨ ∃ p ∈ l, p.1 = i ∧ img D i = p.2 := by
  have hl : i < D.secs.length := by rw [hs, settled_length, putAll_length]; exact hi
  have h' : i < (settled (fun _ => true) (putAll s l)).length := by rw [settled_length, putAll_length]; exact hi
  have e1 : img D i = (settled (fun _ => true) (putAll s l))[i].1 := by rw [img_at hl]; congr 1; simp [hs]
  have e2 : img D0 i = s[i].1 := by rw [img_at (by rw [h0]; exact hi)]; simp [h0]
  rcases settled_all he l hi h' with ⟨h, h2⟩ | ⟨p, hp, h1, h2⟩
  · left; exact ⟨by rw [e1, e2, h], h2⟩
  · right; exact ⟨p, hp, h1, by rw [e1, h2]⟩
/-- a head in the place of the older one: whatever else there is stays -/
theorem RO.newHead {R : RgS} {D D' : DS} {h' : Hd} {l : List Bs} {u : Nat} (h : RO R D) (hok : D'.Ok) (hal : D'.dead = false) (hem : emptyC D'.secs) (hlen : D'.secs.length = D.secs.length)
    (hi : img D' ((R.h.turn + 1) % 2) = headB h') (hs : ∀ i, i ≠ (R.h.turn + 1) % 2 → img D' i = img D i) (ht : h'.turn = R.h.turn + 1) (hz : h'.size = R.h.size)
    (hR : RgS.Ok ⟨h', l, u, false⟩) (hnum : h'.first < 1099511627776) (hhas : Has (img D) h'.size h'.turn h'.first h'.place l) (hpl : (h'.place + u) % h'.size = (R.h.place + R.used) % h'.size) (hn : h'.first + l.length = R.next) :
    RO ⟨h', l, u, false⟩ D' ∧ Frs ⟨h', l, u, false⟩ D' := by
  have hsec : ∀ q, img D' (2 + q) = img D (2 + q) := fun q => hs (2 + q) (by omega)
  have hold : img D' (R.h.turn % 2) = headB R.h := by rw [hs _ (by omega)]; exact h.head
  have hrd := readB_headB h.ok.right h.num
  refine ⟨⟨hR, rfl, hnum, hok, hal, hem, by dsimp only; rw [hlen, hz]; exact h.len, by dsimp only; rw [ht]; exact hi, ?_, ?_, ?_, ?_⟩, ?_⟩
  · dsimp only
    rw [ht, show (R.h.turn + 1 + 1) % 2 = R.h.turn % 2 by omega, hold, hrd]
    intro _; dsimp only; omega
  · exact hhas.frame rfl (fun j _ => hsec _)
  · intro hlt t b h1 h1' h2 h3
    dsimp only [RgS.next] at hlt ⊢
    rw [hn] at hlt ⊢
    dsimp only at h3
    rw [hz] at h3 hpl ⊢
    obtain ⟨k, hk, hne⟩ := h.none hlt t b h1 h1' h2 h3
    refine ⟨k, hk, ?_⟩
    have e : (h'.place + u + k) % R.h.size = (R.h.place + R.used + k) % R.h.size := by rw [Nat.add_mod, hpl, ← Nat.add_mod]
    rw [e, hsec]; exact hne
  · intro q hq
    dsimp only [RgS.next] at hq ⊢
    rw [hz] at hq
    have := h.bound q hq
    rw [hsec, hn, ht]; omega
  · intro q hq hc
    dsimp only [RgS.next] at hq hc
    rw [hz] at hq
    have := h.bound q hq
    rw [hsec, ht] at hc; omega
theorem headL_idx {h : Hd} {p : Nat × Blk} (hp : p ∈ headL h) : p.1 = h.turn % 2 ∧ p.2 = headB h := by
  simp only [headL, List.mem_singleton] at hp; subst hp; exact ⟨rfl, rfl⟩
theorem emptyC_lays {D : DS} {l : List (Nat × Blk)} {keep : Nat → Bool} (h : D.secs = settled keep (putAll D.secs l)) : emptyC D.secs := by rw [h]; exact emptyC_settled
/-- what a ring is behind an Open -/
def RgS.again (R : RgS) : RgS := { R with h := { R.h with turn := R.h.turn + 1 } }
theorem RO.open {R : RgS} {D : DS} (h : RO R D) (hc : D.Calm) (ht : R.h.turn < 1073741824) : ∃ D', openR D = (some R.again, D', 0) ∧ RO R.again D' ∧ Frs R.again D' ∧ D'.Calm ∧ D'.secs.length = D.secs.length := by
  have hcl : D.Clean := ⟨h.dok, hc, h.empty⟩
  have hsz := h.ok.size
  have hlen := h.len
  have hus := h.ok.used
  have hnx := h.ok.next
  obtain ⟨D1, e1, c1, s1⟩ := hcl.read (i := 0) (by omega)
  obtain ⟨D2, e2, c2, s2⟩ := c1.read (i := 1) (by rw [s1]; omega)
  rw [img_congr s1] at e2
  have hcnt := h.counts
  have hs2 : D2.secs = D.secs := s2.trans s1
  obtain ⟨D3, e3, c3, s3⟩ := found_clean R.ents (R.h.size + 1) ⟨R.h, [], 0, false⟩ D2 c2 (by dsimp only; omega) (by rw [hs2]; exact hlen) (by dsimp only; omega) (by
      rw [img_congr hs2]; simpa [RgS.next] using h.has) h.ok.long (by dsimp only; have := h.ok.fit; omega) (fun hlt => by
      rw [img_congr hs2]
      have := h.none (by unfold RgS.next; simpa [RgS.next] using hlt)
      rw [hus] at this
      simpa [RgS.next] using this) (by unfold RgS.next at hnx; simpa [RgS.next] using hnx) (by have := usedL_len R.ents; have := h.ok.fit; omega)
  have hs3 : D3.secs = D.secs := s3.trans hs2
  have hidx : ∀ p ∈ headL { R.h with turn := R.h.turn + 1 }, p.1 < D3.secs.length := fun p hp => by
    rw [(headL_idx hp).1, hs3]; omega
  obtain ⟨l0, l1, l2⟩ := Calm_lays (headL { R.h with turn := R.h.turn + 1 }) D3 c3.calm hidx
  have hD4ok : (DS.lays (headL { R.h with turn := R.h.turn + 1 }) D3).1.Ok := c3.ok.lays (fun p hp => by rw [(headL_idx hp).2]; exact headB_len _)
  have hall := fun {i : Nat} (hi : i < D3.secs.length) => img_all (D := (DS.lays (headL { R.h with turn := R.h.turn + 1 }) D3).1) c3.empty l2 D3 rfl hi
  have hR : ({ R with h := { R.h with turn := R.h.turn + 1 } } : RgS) = ⟨{ R.h with turn := R.h.turn + 1 }, R.ents, R.used, false⟩ := by rw [← h.live]
  have hok' : RgS.Ok ⟨{ R.h with turn := R.h.turn + 1 }, R.ents, R.used, false⟩ := ⟨⟨by dsimp only; omega, by dsimp only; omega⟩, h.ok.size, h.ok.first, h.ok.next, h.ok.place, h.ok.note, h.ok.used, h.ok.fit, h.ok.long⟩
  have hnew := h.newHead (D' := (DS.lays (headL { R.h with turn := R.h.turn + 1 }) D3).1) (h' := { R.h with turn := R.h.turn + 1 }) (l := R.ents) (u := R.used) hD4ok l1.dead (by rw [l2]; exact emptyC_settled)
    (by rw [lays_length, hs3]) (by
      rcases hall (i := (R.h.turn + 1) % 2) (by rw [hs3]; omega) with ⟨_, hno⟩ | ⟨p, hp, _, hq⟩
      · exact absurd rfl (hno _ (List.mem_singleton.2 rfl))
      · rw [hq, (headL_idx hp).2]) (fun i hi => by
      rw [← img_congr hs3]
      rcases img_settled c3.empty l2 D3 rfl i with he | ⟨p, hp, h1, _⟩
      · exact he
      · exact absurd (by rw [← h1, (headL_idx hp).1]) hi) rfl rfl hok' h.num (h.has.le (by dsimp only; omega)) rfl rfl
  refine ⟨(DS.lays (headL { R.h with turn := R.h.turn + 1 }) D3).1, ?_, by unfold RgS.again; rw [hR]; exact hnew.1, by unfold RgS.again; rw [hR]; exact hnew.2, l1, by rw [lays_length, hs3]⟩
  have e1' : D.read 0 = (D1, img D 0, 0) := e1
  have e2' : D1.read 1 = (D2, img D 1, 0) := e2
  have hul : usedL R.ents = R.used := hus.symm
  have hfin : openH R.h D2 = (some ⟨{ R.h with turn := R.h.turn + 1 }, R.ents, R.used, false⟩, (DS.lays (headL { R.h with turn := R.h.turn + 1 }) D3).1, 0) := by
    unfold openH
    rw [if_neg (by rw [hs2]; omega), e3, if_neg (by simp), if_neg (by omega), if_pos l0]
    simp only [List.nil_append, Nat.zero_add, hul]
    refine Prod.ext rfl (Prod.ext rfl l0)
  unfold openR
  rw [e1', if_neg (by simp), e2', if_neg (by simp), hcnt, if_neg (by simp), hfin]
  unfold RgS.again
  rw [hR]
end Go.Proofs.E

namespace Go.Proofs.E
open Go
set_option linter.unusedVariables false
set_option linter.unusedSimpArgs false
set_option linter.unusedSectionVars false
set_option maxRecDepth 4000
set_option maxHeartbeats 1000000
attribute [local irreducible] Yl TL TC TE Spec YSpec R1 Hp.le EnvLe TS TR YS Stays
theorem sIn_l {ρ : Hp} {b : Nat} {l : Bs} {T : TypeId} {fr : Nat × Nat} (h : ρ b = some (.cells ⟨l.map u8c⟩ T fr)) : SIn ρ u8c (some ⟨b, 0, none⟩) l.length l := ⟨rfl, .inr ⟨b, 0, _, _, _, rfl, h, by rw [List.drop_zero, List.take_of_length_le (by simp)]⟩⟩
theorem knew (ρ : Hp) (n : Nat) (h0 : 0 < n) (h1 : n ≤ 2048) : Spec Try.prog 23 [.int .i64 n] ρ [] (fun v ρ' L' => ρ' = ρ ∧ ∃ b k, v = .tuple ⟨[.pointer (some ⟨b, 0, none⟩), .int .i64 0]⟩ ∧ DOk k (DS.new n) ∧ L' = diskK b k (DS.new n)) :=
  (new_spec ρ n h0 h1).mono (fun v ρ' L' _ ⟨h1', b, hb, mb, ck, h2, h3⟩ => ⟨h1', b, ⟨hb, mb, [], ck⟩, h2, ⟨new_okD h0 h1, MapOk.empty fresh_empty⟩, h3⟩)
theorem klen (ρ : Hp) (b : Nat) (k : DK) (D : DS) : Spec Try.prog 53 [.pointer (some ⟨b, 0, none⟩)] ρ (diskK b k D) (fun v ρ' L' => v = .int .i64 (D.secs.length : Nat) ∧ ρ' = ρ ∧ L' = diskK b k D) := len_disk ρ b k.hb k.mb k.es k.ck D
theorem z8_take (n m : Nat) : unbe ((z8 n).take m) = 0 := by
  have : ∀ k, unbe (z8 k) = 0 := fun k => by
    induction k with
    | zero => rfl
    | succ k ih => simp only [z8, List.replicate_succ] at ih ⊢; rw [unbe_cons, ih]; simp
  simp only [z8, List.take_replicate]
  exact this _
theorem zblk_z : zblk = z8 64 := rfl
theorem sIn_part {ρ : Hp} {b : Nat} {s : Bs} {T : TypeId} {fr : Nat × Nat} (h : ρ b = some (.cells ⟨s.map u8c⟩ T fr)) (lo' n : Nat) (hn : lo' + n ≤ s.length) : SIn ρ u8c (some ⟨b, lo', none⟩) n ((s.drop lo').take n) := by
  refine ⟨by simp; omega, .inr ⟨b, lo', _, _, _, rfl, h, by rw [List.map_take, List.map_drop]⟩⟩
end Go.Proofs.E

namespace Go.Proofs.E
open Go
set_option linter.unusedVariables false
set_option linter.unusedSimpArgs false
set_option linter.unusedSectionVars false
set_option maxRecDepth 4000
set_option maxHeartbeats 1000000
attribute [local irreducible] Yl TL TC TE Spec YSpec R1 Hp.le EnvLe TS TR YS Stays
/-! ## layer 14: slots of pages, as data -/
theorem put32_spec (ρ : Hp) (a : Option Addr) (n c : Nat) (l : List UInt8) (h : SIn ρ u8c a n l) (x : Nat) (hx : x < 4294967296) (hn : n ≤ 1000000) :
    Spec Try.prog 105 [.slice a n c, .int .u32 x] ρ [] (fun v ρ' L' => ρ' = ρ ∧ ∃ sp, OwnS v (n + 4) ((l ++ be 4 x).map u8c) sp 1 ∧ L' = [ownC v ((l ++ be 4 x).map u8c) sp 5]) := by
  have hw : IntKind.u64.wrap (x : Int) = x := wrap_id (by simp only [lo, hi]; omega)
  have hs := stand_spec ρ a n c l h x 4 (by omega) (by omega) (by omega) hn
  refine spec_enter Try.func105 rfl rfl rfl fun u R => ?_
  simp only [argsE, List.cons_append, List.nil_append]
  repeat' (first | (refine iCv ?_; refine tl_y (y_conv rfl) rfl rfl ?_; rw [hw]) | (refine tl_is (.func 136) ?_; refine qC rfl rfl (hs) ?_; rintro v ρ' L' hle ⟨rfl, sp, hown, rfl⟩ <;> (try simp only [List.cons_append, List.nil_append, List.append_eq])) | (refine i_op ?_; first | (refine i_qq ?_; refine qQ ?_) | refine qEf ?_) | refine tl_nil ?_ | (refine i_tc ?_; refine qTc ?_) | (refine i_te ?_; refine qTe ?_) | intro _)
  exact qE ⟨rfl, sp, hown, rfl⟩
structure SlD where
  stamp : Nat
  lsn : Nat
  c : Cont
  right : Bool
  most : Nat
def zSl : SlD := ⟨0, 0, ⟨0, [], []⟩, false, 0⟩
abbrev slV (s : SlD) (w : CV) : List Value := [.int .u64 s.stamp, .int .u64 s.lsn, .int .i64 s.c.kind, .slice w.ra w.rn w.rc, .slice w.ka w.kn w.kc, .bool s.right, .int .u64 s.most]
def dataB (c : Cont) : Bs := fitB 84 (UInt8.ofNat (contB c).length :: contB c)
theorem dataB_len (c : Cont) : (dataB c).length = 84 := fitB_len _ _
def bodyF (num st lsn : Nat) (c : Cont) (i : Nat) : Bs := UInt8.ofNat num :: UInt8.ofNat i :: (be 8 st ++ (be 8 lsn ++ ((dataB c).drop (42 * i)).take 42))
def partF (num st lsn : Nat) (c : Cont) (i : Nat) : Blk := bodyF num st lsn c i ++ be 4 (sumB (bodyF num st lsn c i))
theorem bodyF_len (num st lsn : Nat) (c : Cont) {i : Nat} (hi : i < 2) : (bodyF num st lsn c i).length = 60 := by
  simp [bodyF, be_length, dataB_len]; omega
theorem partF_len (num st lsn : Nat) (c : Cont) {i : Nat} (hi : i < 2) : (partF num st lsn c i).length = 64 := by
  unfold partF; rw [List.length_append, bodyF_len num st lsn c hi, be_length]
/-- bytes that are laid over the first ones of noughts -/
theorem fit_lay {n : Nat} {l : Bs} (h : l.length ≤ n) : fitB n l = l ++ z8 (n - l.length) := by
  unfold fitB z8
  rw [List.take_append, List.take_of_length_le h, List.take_replicate]
  congr 2; omega
theorem data_lay {l : Bs} (x : UInt8) (h : l.length ≤ 83) : stc (stc ((z8 84).map u8c) (0 + Int.toNat 0 * 1) [u8c x]) 1 ((l.map u8c).take 83) = (fitB 84 (x :: l)).map u8c := by
  have e1 : stc ((z8 84).map u8c) (0 + Int.toNat 0 * 1) [u8c x] = u8c x :: List.replicate 83 (u8c 0) := by simp [stc, z8]
  have e2 : ∀ m, List.drop (1 + m) (u8c x :: List.replicate 83 (u8c 0)) = List.replicate (83 - m) (u8c 0) := fun m => by rw [Nat.add_comm, List.drop_succ_cons, List.drop_replicate]
  rw [e1, fit_lay (by simp; omega), List.take_of_length_le (by simp; omega)]
  unfold stc
  rw [e2]
  simp [z8]
def outF (num st lsn : Nat) (c : Cont) (i : Nat) : Bs := (List.range i).flatMap (partF num st lsn c) ++ z8 (128 - 64 * i)
theorem outF_one (num st lsn : Nat) (c : Cont) : outF num st lsn c 1 = partF num st lsn c 0 ++ z8 64 := by simp [outF]
theorem outF_two (num st lsn : Nat) (c : Cont) : outF num st lsn c 2 = partF num st lsn c 0 ++ partF num st lsn c 1 := by
  rw [outF, show List.range 2 = [0, 1] from rfl]; simp [z8]
theorem outF_len (num st lsn : Nat) (c : Cont) {i : Nat} (hi : i ≤ 2) : (outF num st lsn c i).length = 128 := by
  rcases (show i = 0 ∨ i = 1 ∨ i = 2 by omega) with rfl | rfl | rfl
  · simp [outF, z8]
  · rw [outF_one, List.length_append, partF_len _ _ _ _ (by omega)]; simp [z8]
  · rw [outF_two, List.length_append, partF_len _ _ _ _ (by omega), partF_len _ _ _ _ (by omega)]
theorem outF_lay (num st lsn : Nat) (c : Cont) {i : Nat} (hi : i < 2) : stc ((outF num st lsn c i).map u8c) (0 + i * 64) (((partF num st lsn c i).map u8c).take 64) = (outF num st lsn c (i + 1)).map u8c := by
  have hp := partF_len num st lsn c hi
  rw [List.take_of_length_le (by simp; omega)]
  rcases (show i = 0 ∨ i = 1 by omega) with rfl | rfl
  · rw [outF_one]
    simp only [outF, List.range_zero, List.flatMap_nil, List.nil_append, stc]
    simp [z8, hp]
  · rw [outF_one, outF_two]
    have h0 := partF_len num st lsn c (i := 0) (by omega)
    simp only [stc, List.map_append]
    rw [List.take_left' (by simp [h0]), List.drop_eq_nil_of_le (by simp [h0, hp, z8])]
    simp
theorem parts_spec (ρ : Hp) (num : Nat) (hnum : num < 64) (s : SlD) (w : CV) (h : CIn ρ w s.c.rows s.c.kids) (hok : contOk s.c = true) (hir : ∀ r ∈ s.c.rows, r.id < 65536) (hik : ∀ k ∈ s.c.kids, k.id < 65536) (hst : s.stamp < 18446744073709551616) (hls : s.lsn < 18446744073709551616) :
    Spec Try.prog 75 [.int .i64 num, .agg ⟨slV s w⟩] ρ [] (fun v ρ' L' => v = .agg ⟨(partF num s.stamp s.lsn s.c 0 ++ partF num s.stamp s.lsn s.c 1).map u8c⟩ ∧ ρ.le ρ' ∧ L' = []) := by
  have hce := contE_spec ρ w s.c h hir hik
  rw [hok] at hce
  simp only [if_true] at hce
  refine spec_enter Try.func75 rfl rfl rfl fun u R => ?_
  simp only [argsE, List.cons_append, List.nil_append]
  repeat' (first | (refine tl_is (.func 103) ?_; refine qC rfl rfl (hce) ?_; rintro v ρ' L' hle ⟨hl1, xa, xn, xc, rfl, hxc, hxs, rfl⟩ <;> (try simp only [List.cons_append, List.nil_append, List.append_eq])) | (refine i_op ?_; first | (refine i_qq ?_; refine qQ ?_) | refine qEf ?_) | refine tl_nil ?_ | (refine i_tc ?_; refine qTc ?_) | (refine i_te ?_; refine qTe ?_) | intro _)
  have hxl := hxs.len
  have h82 := contB_len hok
  have hlb := lenB (n := xn) (by omega)
  have hdl := data_lay (l := contB s.c) (UInt8.ofNat xn) (by omega)
  rename_i b3 b4
  repeat' (first | (refine tl_makeSlice rfl rfl (by omega) (by omega) (by omega) (by omega) rfl (fun hbn => ?_); simp only [Nat.mul_one, made_z8]) | (refine i_op ?_; first | (refine i_qq ?_; refine qQ ?_) | refine qEf ?_) | refine tl_nil ?_ | (refine i_tc ?_; refine qTc ?_) | (refine i_te ?_; refine qTe ?_) | intro _)
  simp only [show (Int.toNat 84 = Int.toNat 1) = False from eq_false (by decide), if_false, Option.map_some, addr_add, hlb]
  refine tl_copy (ys := (contB s.c).map u8c) rfl rfl (SIn.srcV hxs) (by simpa using hxl) (u8c_one _) (by simp [stc, z8]; omega) rfl ?_
  rw [show Int.toNat 84 - Int.toNat 1 = 83 from rfl, show 0 + Int.toNat 1 * 1 = 1 from rfl, show Int.toNat 84 = 84 from rfl, hdl, show fitB 84 (UInt8.ofNat xn :: contB s.c) = dataB s.c by rw [← hxl]; rfl]
  refine tl_freeze [(hbn, .cells ⟨(dataB s.c).map u8c⟩ 5 (0, 0))] (h := Rem.here) (fun ρ2 hl2 hfz => ?_)
  have hdn := hfz _ (List.mem_singleton.2 rfl)
  have hdt := sIn_l hdn
  rw [dataB_len] at hdt
  repeat' (first | (refine i_op ?_; first | (refine i_qq ?_; refine qQ ?_) | refine qEf ?_) | refine tl_nil ?_ | (refine i_tc ?_; refine qTc ?_) | (refine i_te ?_; refine qTe ?_) | intro _)
  refine tc_loop_g [(0, _), (3, _), (4, _), (7, _)] (fun (ζ : (Nat) × (Hp)) => [(26, .int .i64 ζ.1)]) (fun (ζ : (Nat) × (Hp)) => ζ.2) (fun (ζ : (Nat) × (Hp)) => [[(b4, .cells ⟨(outF num s.stamp s.lsn s.c ζ.1).map u8c⟩ 110 (0, 0))], [(b3, .cells ⟨slV s w⟩ 133 (0, 0))]]) (fun (ζ : (Nat) × (Hp)) => ζ.1 ≤ 2 ∧ ρ2.le ζ.2) (fun (ζ : (Nat) × (Hp)) => 2 - ζ.1) ((0, ρ2)) (⟨Nat.zero_le _, Hp.le_refl _⟩) ev_le ev_le rfl tk ?_
  rintro ⟨i, ρ3⟩ hI
  try simp only [List.cons_append, List.nil_append, List.append_assoc, List.append_eq] at hI ⊢
  try dsimp only at hI ⊢
  obtain ⟨hi, hl3⟩ := hI
  by_cases hlt : i < 2
  · have hsub := (hdt.mono hl3).sub (lo' := i * 42) (hi' := (i + 1) * 42) (by omega) (by omega) (cap := 84) (by omega)
    have hbn8 := lenB (n := num) (by omega)
    have hbi8 := lenB (n := i) (by omega)
    have hbl := bodyF_len num s.stamp s.lsn s.c hlt
    have hpl := partF_len num s.stamp s.lsn s.c hlt
    have hol := outF_lay num s.stamp s.lsn s.c hlt
    have hoL := outF_len num s.stamp s.lsn s.c hi
    repeat' (first | (refine i_op ?_; first | (refine i_qq ?_; refine qQ ?_) | refine qEf ?_) | refine tl_nil ?_ | (refine i_tc ?_; refine qTc ?_) | (refine i_te ?_; refine qTe ?_) | intro _)
    refine tc_any (Stays _ _ ([[(b3, .cells ⟨slV s w⟩ 133 (0, 0))]])) (stays_of (hT := tk) (Hp.le_refl _)) ?_
    all_goals refine rMv 0 ?_
    all_goals refine rCv 1 ?_
    all_goals refine rMv 2 ?_
    all_goals refine rCv 3 ?_
    all_goals refine rFa 5 ?_
    all_goals refine rLd 6 ?_
    all_goals refine rFa 8 ?_
    all_goals refine rLd 9 ?_
    all_goals (refine rStep (i := 4) ?_; ((try refine qWant ?_); (first | (simp only [hbn8, hbi8]; refine tl_buildSlice_s rfl rfl rfl rfl (by simp) rfl rfl (fun hb8 => ?_); refine tl_freeze [(hb8, .cells ⟨[UInt8.ofNat num, UInt8.ofNat i].map u8c⟩ 5 (0, 0))] (h := Rem.here) (fun ρ4 hl4 hfz4 => ?_); have hs4 := sIn_l (hfz4 _ (List.mem_singleton.2 rfl))) | (refine qEf ?_; try intro _)) <;> ((try simp only [List.cons_append, List.nil_append, List.append_eq]); refine tl_nil ?_; refine rNext ?_)))
    all_goals (refine rStep (i := 7) ?_; ((try refine qWant ?_); (first | (refine tl_is (.func 104) ?_; refine qC rfl rfl (put64_spec _ _ _ _ _ hs4 s.stamp hst (by simp)) ?_; rintro v5 ρ5 L5 hle5 ⟨rfl, sp5, hown5, rfl⟩; simp only [List.cons_append, List.nil_append]; refine tl_freeze _ (h := Rem.here) (fun ρ6 hl6 hfz6 => ?_); obtain ⟨a6, c6, rfl, hc6, hs6⟩ := hown5.sIn hfz6) | (refine tl_is (.func 104) ?_; refine qC rfl rfl (put64_spec _ _ _ _ _ hs6 s.lsn hls (by simp)) ?_; rintro v7 ρ7 L7 hle7 ⟨rfl, sp7, hown7, rfl⟩; simp only [List.cons_append, List.nil_append]) | (refine qEf ?_; try intro _)) <;> ((try simp only [List.cons_append, List.nil_append, List.append_eq]); refine tl_nil ?_; refine rNext ?_)))
    all_goals (refine rStep (i := 10) ?_; ((try refine qWant ?_); (first | (refine tl_is (.func 104) ?_; refine qC rfl rfl (put64_spec _ _ _ _ _ hs4 s.stamp hst (by simp)) ?_; rintro v5 ρ5 L5 hle5 ⟨rfl, sp5, hown5, rfl⟩; simp only [List.cons_append, List.nil_append]; refine tl_freeze _ (h := Rem.here) (fun ρ6 hl6 hfz6 => ?_); obtain ⟨a6, c6, rfl, hc6, hs6⟩ := hown5.sIn hfz6) | (refine tl_is (.func 104) ?_; refine qC rfl rfl (put64_spec _ _ _ _ _ hs6 s.lsn hls (by simp)) ?_; rintro v7 ρ7 L7 hle7 ⟨rfl, sp7, hown7, rfl⟩; simp only [List.cons_append, List.nil_append]) | (refine qEf ?_; try intro _)) <;> ((try simp only [List.cons_append, List.nil_append, List.append_eq]); refine tl_nil ?_; refine rNext ?_)))
    all_goals refine rFull ?_
    all_goals refine rAs 11 ?_
    all_goals refine rDone ?_
    have hown7' : OwnS v7 18 ((UInt8.ofNat num :: UInt8.ofNat i :: (be 8 s.stamp ++ be 8 s.lsn)).map u8c) sp7 1 := hown7
    have h60 : 18 + ((i + 1) * 42 - i * 42) = 60 := by omega
    have hq1 : ((i : Int) * 42).toNat = i * 42 := by omega
    have hq2 : (((i : Int) + 1) * 42).toNat = (i + 1) * 42 := by omega
    have hbody : (UInt8.ofNat num :: UInt8.ofNat i :: (be 8 s.stamp ++ be 8 s.lsn)).map u8c ++ (((dataB s.c).drop (i * 42)).take ((i + 1) * 42 - i * 42)).map u8c = (bodyF num s.stamp s.lsn s.c i).map u8c := by
      rw [show (i + 1) * 42 - i * 42 = 42 by omega, Nat.mul_comm i 42, ← List.map_append]
      congr 1
    have hl37 : ρ3.le ρ7 := Hp.le_trans hl4 hl6
    repeat' (first | (simp only [hq1, hq2]; refine tl_app (m := (i + 1) * 42 - i * 42) (sz := 1) rfl rfl hown7' (hR := by infer_instance) (SIn.srcV (hsub.mono hl37)) (by simp [dataB_len]; omega) (u8c_one _) (by decide) rfl (by omega) (by omega) rfl (fun v8 sp8 hown8 => ?_); rw [hbody] at hown8 ⊢; refine tl_freeze (ownC v8 ((bodyF num s.stamp s.lsn s.c i).map u8c) sp8 5) (h := by infer_instance) (fun ρ8 hl8 hfz8 => ?_); obtain ⟨a8, c8, rfl, hc8, hs8⟩ := hown8.sIn hfz8; simp only [h60] at hs8 hc8 hown8 ⊢) | (refine i_op ?_; first | (refine i_qq ?_; refine qQ ?_) | refine qEf ?_) | refine tl_nil ?_ | (refine i_tc ?_; refine qTc ?_) | (refine i_te ?_; refine qTe ?_) | intro _)
    refine tc_any (Stays _ _ ([])) (stays_of (hT := tk) (Hp.le_refl _)) ?_
    all_goals refine rMv 0 ?_
    all_goals refine rIa 1 ?_
    all_goals refine rSl 2 ?_
    all_goals refine rMv 3 ?_
    all_goals refine rMv 4 ?_
    all_goals (refine rStep (i := 5) ?_; ((try refine qWant ?_); (first | (refine tl_is (.func 106) ?_; refine qC rfl rfl (sum32_spec _ a8 60 c8 _ hs8 (by omega)) ?_; rintro v ρ' L' hle ⟨rfl, rfl, rfl⟩ <;> (try simp only [List.cons_append, List.nil_append, List.append_eq])) | (refine qEf ?_; try intro _)) <;> ((try simp only [List.cons_append, List.nil_append, List.append_eq]); refine tl_nil ?_; refine rNext ?_)))
    all_goals (refine rStep (i := 6) ?_; ((try refine qWant ?_); (first | (refine tl_is (.func 105) ?_; refine qC rfl rfl (put32_spec _ a8 60 c8 _ hs8 (sumB (bodyF num s.stamp s.lsn s.c i)) (sumB_lt _) (by omega)) ?_; rintro v9 ρ9 L9 hle9 ⟨rfl, sp9, hown9, rfl⟩; simp only [List.cons_append, List.nil_append]; refine tl_freeze _ (h := Rem.here) (fun ρ10 hl10 hfz10 => ?_); obtain ⟨a10, c10, rfl, hc10, hs10⟩ := hown9.sIn hfz10) | (refine qEf ?_; try intro _)) <;> ((try simp only [List.cons_append, List.nil_append, List.append_eq]); refine tl_nil ?_; refine rNext ?_)))
    all_goals (refine rStep (i := 7) ?_; ((try refine qWant ?_); (first | ((try simp only [Int.toNat_natCast]); refine tl_copy (ys := (partF num s.stamp s.lsn s.c i).map u8c) rfl rfl (SIn.srcV hs10) (by simp [hpl]) (u8c_one _) (by simp [hoL]; omega) rfl ?_; simp only [hol]) | (refine qEf ?_; try intro _)) <;> ((try simp only [List.cons_append, List.nil_append, List.append_eq]); refine tl_nil ?_; refine rNext ?_)))
    all_goals refine rDone ?_
    all_goals (repeat' (first | (refine i_op ?_; first | (refine i_qq ?_; refine qQ ?_) | refine qEf ?_) | refine tl_nil ?_ | (refine i_tc ?_; refine qTc ?_) | (refine i_te ?_; refine qTe ?_) | intro _))
    all_goals refine te_round_g (i + 1, _) (⟨hlt, Hp.le_trans hl3 (Hp.le_trans hl37 (Hp.le_trans hl8 hl10))⟩) ev_le ev_le rfl tk inferInstance (by first | omega | (dsimp only; omega))
  · have h2 : i = 2 := by omega
    subst h2
    have hL2 : ((outF num s.stamp s.lsn s.c 2).map u8c).length = 128 := by rw [List.length_map]; exact outF_len _ _ _ _ (by omega)
    rw [outF_two] at hL2 ⊢
    have hL1 := u8c_one (partF num s.stamp s.lsn s.c 0 ++ partF num s.stamp s.lsn s.c 1)
    repeat' (first | (refine i_op ?_; first | (refine i_qq ?_; refine qQ ?_) | refine qEf ?_) | refine tl_nil ?_ | (refine i_tc ?_; refine qTc ?_) | (refine i_te ?_; refine qTe ?_) | intro _)
    have hfin := Hp.le_trans hl1 (Hp.le_trans hl2 hl3)
    exact qE (L' := []) ⟨rfl, hfin, rfl⟩
end Go.Proofs.E

namespace Go.Proofs.E
open Go Go.Lib
set_option linter.unusedVariables false
set_option linter.unusedSimpArgs false
set_option linter.unusedSectionVars false
/-- two rows of bytes in one array -/
theorem eqC_two {P : Program} {m t e u n : Nat} [hA : TyArr P t 2 e] [hE : TyArr P e n u] [hU : TyInt P u .u8] [hz : TySz P u 1] [hT : TyA P e n] (a b c d : List UInt8) (ha : a.length = n) (hb : b.length = n) (hc : c.length = n) (hd : d.length = n) :
    EqC P (m + 3) t (.agg ⟨(a ++ b).map u8c⟩) (.agg ⟨(c ++ d).map u8c⟩) (decide (a ++ b = c ++ d)) := ⟨fun dd w hdd => by
  obtain ⟨dd, rfl⟩ : ∃ d', dd = d' + 3 := ⟨dd - 3, by omega⟩
  obtain ⟨ds, i, g1, g2, g3, g4⟩ := hT.out
  obtain ⟨iu, z1, z2⟩ := hz.out
  have hsz : ∀ w, (sizeOf u).run P w = .ok 1 w := fun w => by simp [sizeOf, typeInfo, z1, z2]
  have hag : ∀ w, (isAgg e).run P w = .ok true w := fun w => by
    simp only [isAgg, underlying, Sem.run_bind, run_program, Result.andThen_ok, g1, Sem.run_pure]
    cases ds <;> simp_all
  have hcl : P.cellsOf e = n := by simp [Program.cellsOf, g3, g4]
  have hp : ∀ (x y : List UInt8) (k : Nat) (w : World), x.length = n → y.length = n → k < 2 → (part e ⟨(x ++ y).map u8c⟩ (k * P.cellsOf e)).run P w = .ok (.agg ⟨(if k = 0 then x else y).map u8c⟩) w := fun x y k w hx hy hk => by
    rw [hcl]
    simp only [part, hag, sizeOf, typeInfo, g3, g4, Sem.run_bind, Result.andThen_ok, if_true]
    rcases (show k = 0 ∨ k = 1 by omega) with rfl | rfl
    · simp [g3, g4, ← hx]
    · simp [g3, g4, ← hx]
      exact List.take_of_length_le (by simp; omega)
  rw [run_equalIn_array w (dd + 2) ⟨(a ++ b).map u8c⟩ ⟨(c ++ d).map u8c⟩ hA.out g3, show List.range 2 = [0, 1] from rfl]
  have e1 : ∀ l : List UInt8, (l.map Extern.Stop.cell).toArray = ⟨l.map u8c⟩ := fun l => rfl
  have hr := fun (x y : List UInt8) (hx : x.length = n) (hy : y.length = n) => run_equalIn_bytes (P := P) w dd e u n hE.out hU.out hsz x y hx hy
  simp only [e1] at hr
  simp only [Op.eqItems, Sem.run_bind, hp a b 0 w ha hb (by omega), hp c d 0 w hc hd (by omega), Result.andThen_ok, if_true, hr a c ha hc]
  cases h1 : (a == c)
  · simp only [Bool.not_false, if_true, Sem.run_pure]
    rw [decide_eq_false]
    intro h
    have := (List.append_inj h (by omega)).1
    simp [this] at h1
  · simp only [Bool.not_true, Bool.false_eq_true, if_false, Sem.run_bind, hp a b 1 w ha hb (by omega), hp c d 1 w hc hd (by omega), Result.andThen_ok, hr b d hb hd, show (1 : Nat) = 0 ↔ False by simp]
    have hac : a = c := by simpa using h1
    cases h2 : (b == d)
    · simp only [Bool.not_false, if_true, Sem.run_pure]
      rw [decide_eq_false]
      intro h
      have := (List.append_inj h (by omega)).2
      simp [this] at h2
    · have hbd : b = d := by simpa using h2
      simp [hac, hbd]⟩
section
variable {x : Cx} {E : Env} {ρ : Hp} {L : SH} {ty : TypeId}
theorem y_index_a {o i : Operand} {t len e sz n : Nat} {k : IntKind} {l m : List Value} (ho : ev E o = some (.agg ⟨l⟩)) (hi : ev E i = some (.int k (n : Int))) [hS : TyArr x.P t len e] [hT : TyA x.P e sz] (h1 : n < len) (hm : (l.drop (n * sz)).take sz = m) :
    Yl x (.index t o i) ty E ρ L (.agg ⟨m⟩) := fun a w _ _ _ _ ha hw => by
  obtain ⟨ds, inf, g1, g2, g3, g4⟩ := hT.out
  have hag : (isAgg e).run x.P w = .ok true w := by
    simp only [isAgg, underlying, Sem.run_bind, run_program, Result.andThen_ok, g1, Sem.run_pure]
    cases ds <;> simp_all
  have hsz : (sizeOf e).run x.P w = .ok sz w := by simp [sizeOf, typeInfo, g3, g4]
  simp [execOp, ha.eval ho, ha.eval hi, Instr.index, asIntOf, underlying, hS.out, h1, part, hag, hsz, hm]
end
theorem Hp.at' {ρ ρ' : Hp} (h : ρ.le ρ') {b : Nat} {o : Obj} (hb : ρ b = some o) : ρ' b = some o := h _ _ hb
end Go.Proofs.E

-- BITS
namespace Go.Proofs.E
open Go
set_option linter.unusedVariables false
set_option linter.unusedSimpArgs false
set_option linter.unusedSectionVars false
set_option maxRecDepth 4000
set_option maxHeartbeats 1000000
attribute [local irreducible] Yl TL TC TE Spec YSpec R1 Hp.le EnvLe TS TR YS Stays
def saysF (num : Nat) (a b : Blk) : SlD :=
  if 83 < (a.getD 18 0).toNat then zSl
  else
    ⟨unbe ((a.drop 2).take 8), unbe ((a.drop 10).take 8), (takeContR ((((a.drop 18).take 42 ++ (b.drop 18).take 42).drop 1).take (a.getD 18 0).toNat)).1,
      decide ((takeContR ((((a.drop 18).take 42 ++ (b.drop 18).take 42).drop 1).take (a.getD 18 0).toNat)).2.2 = 0 ∧ (takeContR ((((a.drop 18).take 42 ++ (b.drop 18).take 42).drop 1).take (a.getD 18 0).toNat)).2.1 = (a.getD 18 0).toNat ∧ 0 < unbe ((a.drop 2).take 8) ∧
        partF num (unbe ((a.drop 2).take 8)) (unbe ((a.drop 10).take 8)) (takeContR ((((a.drop 18).take 42 ++ (b.drop 18).take 42).drop 1).take (a.getD 18 0).toNat)).1 0 ++ partF num (unbe ((a.drop 2).take 8)) (unbe ((a.drop 10).take 8)) (takeContR ((((a.drop 18).take 42 ++ (b.drop 18).take 42).drop 1).take (a.getD 18 0).toNat)).1 1 = a ++ b), 0⟩
theorem unbe_take8 (l : Bs) : unbe (l.take 8) < 18446744073709551616 := by
  have := unbe_lt (l.take 8)
  have h8 : (l.take 8).length ≤ 8 := by simp; omega
  have : 256 ^ (l.take 8).length ≤ 256 ^ 8 := Nat.pow_le_pow_right (by decide) h8
  omega
theorem u64_ok (ρ : Hp) (br : Nat) (a : Option Addr) (n c : Nat) (l : Bs) (h : SIn ρ u8c a n l) (hc : n ≤ c) (h8 : 8 ≤ n) :
    Spec Try.prog 141 [.pointer (some ⟨br, 0, none⟩)] ρ [rdC br a n c 0]
      (fun v ρ' L' => v = .int .u64 (unbe (l.take 8) : Nat) ∧ ρ' = ρ ∧ ∃ a' c', SIn ρ u8c a' (n - 8) (l.drop 8) ∧ n - 8 ≤ c' ∧ L' = [rdC br a' (n - 8) c' 0]) := by
  have hl := h.len
  have e : numR 8 l 0 = (unbe (l.take 8), l.drop 8, 0) := by unfold numR; rw [if_neg (by simp), if_neg (by omega)]
  refine (u64_spec ρ br a n c l h hc 0).mono ?_
  rintro v ρ' L' _ ⟨h1, h2, a', n', c', h3, h4, h5⟩
  rw [e] at h1 h3 h5
  have hn : n' = n - 8 := by have := h3.len; simp at this; omega
  subst hn
  exact ⟨h1, h2, a', c', h3, h4, h5⟩
theorem u32_ok (ρ : Hp) (br : Nat) (a : Option Addr) (n c : Nat) (l : Bs) (h : SIn ρ u8c a n l) (hc : n ≤ c) (h4 : 4 ≤ n) :
    Spec Try.prog 143 [.pointer (some ⟨br, 0, none⟩)] ρ [rdC br a n c 0] (fun v ρ' L' => v = .int .u32 (unbe (l.take 4) : Nat) ∧ ρ' = ρ ∧ ∃ a' n' c', L' = [rdC br a' n' c' 0]) := by
  have hl := h.len
  have e : numR 4 l 0 = (unbe (l.take 4), l.drop 4, 0) := by unfold numR; rw [if_neg (by simp), if_neg (by omega)]
  have hn := number_spec ρ br a n c l h hc 0 4 (by omega)
  rw [e] at hn
  have hlt := unbe_lt (l.take 4)
  rw [show (l.take 4).length = 4 by simp; omega] at hlt
  dsimp only at hn
  generalize unbe (l.take 4) = x at *
  refine spec_enter Try.func143 rfl rfl rfl fun u R => ?_
  simp only [argsE, List.cons_append, List.nil_append]
  repeat' (first | (refine tl_is (.func 150) ?_; refine qC rfl rfl (hn) ?_; rintro v ρ' L' hle ⟨rfl, rfl, a', n', c', hs', hc', rfl⟩ <;> (try simp only [List.cons_append, List.nil_append, List.append_eq])) | (refine i_op ?_; first | (refine i_qq ?_; refine qQ ?_) | refine qEf ?_ | refine qAn ?_ | refine qXo ?_ | refine qNt ?_) | refine tl_nil ?_ | (refine i_tc ?_; refine qTc ?_) | (refine i_te ?_; refine qTe ?_) | intro _)
  exact qE ⟨rfl, rfl, a', n', c', rfl⟩
theorem says_spec (ρ : Hp) (num : Nat) (hnum : num < 64) (a b : Blk) (ha : a.length = 64) (hb : b.length = 64) :
    Spec Try.prog 132 [.int .i64 num, .agg ⟨(a ++ b).map u8c⟩] ρ [] (fun v ρ' L' => ρ.le ρ' ∧ ∃ w, v = .agg ⟨slV (saysF num a b) w⟩ ∧ CIn ρ' w (saysF num a b).c.rows (saysF num a b).c.kids ∧ L' = []) := by
  have hab : ((a ++ b).map u8c).length = 128 := by simp [ha, hb]
  have hone := u8c_one (a ++ b)
  have e8 : ((a ++ b).drop 2).take 16 = (a.drop 2).take 16 := by rw [List.drop_append_of_le_length (by omega), List.take_append_of_le_length (by simp; omega)]
  refine spec_enter Try.func132 rfl rfl rfl fun u R => ?_
  simp only [argsE, List.cons_append, List.nil_append]
  repeat' (first | (refine i_op ?_; first | (refine i_qq ?_; refine qQ ?_) | refine qEf ?_ | refine qAn ?_ | refine qXo ?_ | refine qNt ?_) | refine tl_nil ?_ | (refine i_tc ?_; refine qTc ?_) | (refine i_te ?_; refine qTe ?_) | intro _)
  rename_i b3 b4
  refine tl_freeze [(b3, .cells ⟨(a ++ b).map u8c⟩ 110 (0, 0))] (h := by infer_instance) (fun ρ1 hl1 hfz => ?_)
  have hbs := hfz _ (List.mem_singleton.2 rfl)
  have hs16 := sIn_part hbs 2 16 (by simp; omega)
  rw [e8] at hs16
  simp only [show 0 + Int.toNat 0 * 64 + Int.toNat 2 * 1 = 2 from rfl, show Int.toNat 18 - Int.toNat 2 = 16 from rfl]
  repeat' (first | (refine tl_is (.func 140) ?_; refine qC rfl rfl (read_spec _ _ 16 _ _ hs16 (by omega)) ?_; rintro v2 ρ2 L2 hle2 ⟨hl2, br, ra, rc, rfl, hrc, hrs, rfl⟩; simp only [List.cons_append, List.nil_append]) | (refine i_op ?_; first | (refine i_qq ?_; refine qQ ?_) | refine qEf ?_ | refine qAn ?_ | refine qXo ?_ | refine qNt ?_) | refine tl_nil ?_ | (refine i_tc ?_; refine qTc ?_) | (refine i_te ?_; refine qTe ?_) | intro _)
  repeat' (first | (refine tl_is (.func 141) ?_; refine qC rfl rfl (u64_ok _ br ra 16 rc _ hrs hrc (by omega)) ?_; rintro v3 ρ3 L3 hle3 ⟨rfl, rfl, ra3, rc3, hrs3, hrc3, rfl⟩; simp only [List.cons_append, List.nil_append]) | (refine i_op ?_; first | (refine i_qq ?_; refine qQ ?_) | refine qEf ?_ | refine qAn ?_ | refine qXo ?_ | refine qNt ?_) | refine tl_nil ?_ | (refine i_tc ?_; refine qTc ?_) | (refine i_te ?_; refine qTe ?_) | intro _)
  repeat' (first | (refine tl_is (.func 141) ?_; refine qC rfl rfl (u64_ok _ br ra3 8 rc3 _ hrs3 hrc3 (by omega)) ?_; rintro v4 ρ4 L4 hle4 ⟨rfl, rfl, ra4, rc4, hrs4, hrc4, rfl⟩; simp only [List.cons_append, List.nil_append]) | (refine i_op ?_; first | (refine i_qq ?_; refine qQ ?_) | refine qEf ?_ | refine qAn ?_ | refine qXo ?_ | refine qNt ?_) | refine tl_nil ?_ | (refine i_tc ?_; refine qTc ?_) | (refine i_te ?_; refine qTe ?_) | intro _)
  rename_i b6
  have hd0 : (a ++ b).getD 18 0 = a.getD 18 0 := by simp [List.getD_eq_getElem?_getD, List.getElem?_append_left (show 18 < a.length by omega)]
  have hx1 : unbe (((a.drop 2).take 16).take 8) = unbe ((a.drop 2).take 8) := by rw [List.take_take]; rfl
  have hx2 : unbe ((((a.drop 2).take 16).drop 8).take 8) = unbe ((a.drop 10).take 8) := by rw [List.drop_take, List.take_take, List.drop_drop]; rfl
  simp only [hx1, hx2]
  have hb4 := Hp.at' hl2 hbs
  dsimp only at hb4
  have hld : List.take 128 (List.drop 0 ((a ++ b).map u8c)) = (a ++ b).map u8c := by rw [List.drop_zero, List.take_of_length_le (by omega)]
  obtain ⟨dat, hdat⟩ : ∃ dat, dat = (a.drop 18).take 42 ++ (b.drop 18).take 42 := ⟨_, rfl⟩
  have hdl : dat.length = 84 := by rw [hdat]; simp; omega
  repeat' (first | (refine i_op ?_; first | (refine i_qq ?_; refine qQ ?_) | refine qEf ?_ | refine qAn ?_ | refine qXo ?_ | refine qNt ?_) | refine tl_nil ?_ | (refine i_tc ?_; refine qTc ?_) | (refine i_te ?_; refine qTe ?_) | intro _)
  refine tc_loop_g [(0, _), (3, _), (4, _), (6, _), (22, _)] (fun (ζ : (Nat) × (Hp) × (Value) × (List Value)) => [(23, .int .i64 ζ.1), (7, ζ.2.2.1)]) (fun (ζ : (Nat) × (Hp) × (Value) × (List Value)) => ζ.2.1) (fun (ζ : (Nat) × (Hp) × (Value) × (List Value)) => [ownC ζ.2.2.1 ((dat.take (42 * ζ.1)).map u8c) ζ.2.2.2 5]) (fun (ζ : (Nat) × (Hp) × (Value) × (List Value)) => ζ.1 ≤ 2 ∧ ρ4.le ζ.2.1 ∧ OwnS ζ.2.2.1 (42 * ζ.1) ((dat.take (42 * ζ.1)).map u8c) ζ.2.2.2 1) (fun (ζ : (Nat) × (Hp) × (Value) × (List Value)) => 2 - ζ.1) ((0, ρ4, .slice none 0 0, [])) (⟨Nat.zero_le _, Hp.le_refl _, OwnS.nil 1⟩) ev_le ev_le rfl tk ?_
  rintro ⟨i, ρ5, v, sp⟩ hI
  try simp only [List.cons_append, List.nil_append, List.append_assoc, List.append_eq] at hI ⊢
  try dsimp only at hI ⊢
  obtain ⟨hi, hl5, hown⟩ := hI
  by_cases hlt : i < 2
  · obtain ⟨blk, hbl, hix, hnx⟩ : ∃ blk : Blk, blk.length = 64 ∧ (((a ++ b).map u8c).drop (i * 64)).take 64 = blk.map u8c ∧ ((dat.take (42 * i)).map u8c ++ ((blk.drop 18).take 42).map u8c) = (dat.take (42 * (i + 1))).map u8c := by
      have hla : ((a.drop 18).take 42).length = 42 := by simp; omega
      have hlb : ((b.drop 18).take 42).length = 42 := by simp; omega
      rcases (show i = 0 ∨ i = 1 by omega) with rfl | rfl
      · refine ⟨a, ha, ?_, ?_⟩
        · rw [List.map_append, Nat.zero_mul, List.drop_zero, List.take_left' (by simpa using ha)]
        · rw [hdat]
          simp only [Nat.mul_zero, List.take_zero, List.map_nil, List.nil_append]
          rw [List.take_left' hla]
      · refine ⟨b, hb, ?_, ?_⟩
        · rw [List.map_append, Nat.one_mul, List.drop_left' (by simpa using ha), List.take_of_length_le (by simp; omega)]
        · rw [List.take_of_length_le (show dat.length ≤ 42 * (1 + 1) by omega), hdat, List.take_left' (by omega), List.map_append]
    have hb64 : (blk.map u8c).length = 64 := by simpa using hbl
    have hbo := u8c_one blk
    have hsub : ((blk.map u8c).drop 18).take 42 = ((blk.drop 18).take 42).map u8c := by rw [List.map_take, List.map_drop]
    have hsl : (((blk.drop 18).take 42).map u8c).length = 42 := by simp; omega
    repeat' (first | (refine tl_y (y_index_a rfl rfl hlt hix) rfl rfl ?_) | (simp only [show Int.toNat 60 - Int.toNat 18 = 42 from rfl, show 0 + Int.toNat 18 * 1 = 18 from rfl]; refine tl_app (ys := ((blk.drop 18).take 42).map u8c) (m := 42) (sz := 1) rfl rfl hown (hR := by infer_instance) (SrcV.find hsub) hsl (u8c_one _) (by decide) rfl (by omega) (by omega) rfl (fun v7 sp7 hown7 => ?_); rw [hnx] at hown7 ⊢) | (refine i_op ?_; first | (refine i_qq ?_; refine qQ ?_) | refine qEf ?_ | refine qAn ?_ | refine qXo ?_ | refine qNt ?_) | refine tl_nil ?_ | (refine i_tc ?_; refine qTc ?_) | (refine i_te ?_; refine qTe ?_) | intro _)
    refine te_round_g (i + 1, ρ5, v7, sp7) (⟨hlt, hl5, hown7⟩) ev_le ev_le rfl tk inferInstance (by first | omega | (dsimp only; omega))
  · have h2 : i = 2 := by omega
    subst h2
    rw [List.take_of_length_le (show dat.length ≤ 42 * 2 by omega)] at hown ⊢
    repeat' (first | (refine i_op ?_; first | (refine i_qq ?_; refine qQ ?_) | refine qEf ?_ | refine qAn ?_ | refine qXo ?_ | refine qNt ?_) | refine tl_nil ?_ | (refine i_tc ?_; refine qTc ?_) | (refine i_te ?_; refine qTe ?_) | intro _)
    refine tl_freeze (ownC v (dat.map u8c) sp 5) (h := by infer_instance) (fun ρ6 hl6 hfz6 => ?_)
    obtain ⟨a7, c7, rfl, hc7, hs7⟩ := hown.sIn hfz6
    obtain ⟨bx, ox, Cx', Tx, frx, rfl, hbx, hcx⟩ := hs7.get (i := 0) (by omega)
    have hda : dat[0]'(by omega) = a.getD 18 0 := by
      simp only [hdat]
      rw [List.getElem_append_left (by simp; omega), List.getElem_take, List.getElem_drop]
      rw [List.getD_eq_getElem?_getD, List.getElem?_eq_getElem (by omega)]; rfl
    rw [hda] at hcx
    have hdlt := (a.getD 18 0).toNat_lt
    have hsF : saysF num a b = if 83 < (a.getD 18 0).toNat then zSl else
      ⟨unbe ((a.drop 2).take 8), unbe ((a.drop 10).take 8), (takeContR ((dat.drop 1).take (a.getD 18 0).toNat)).1,
      decide ((takeContR ((dat.drop 1).take (a.getD 18 0).toNat)).2.2 = 0 ∧ (takeContR ((dat.drop 1).take (a.getD 18 0).toNat)).2.1 = (a.getD 18 0).toNat ∧ 0 < unbe ((a.drop 2).take 8) ∧
        partF num (unbe ((a.drop 2).take 8)) (unbe ((a.drop 10).take 8)) (takeContR ((dat.drop 1).take (a.getD 18 0).toNat)).1 0 ++ partF num (unbe ((a.drop 2).take 8)) (unbe ((a.drop 10).take 8)) (takeContR ((dat.drop 1).take (a.getD 18 0).toNat)).1 1 = a ++ b), 0⟩ := by
      rw [hdat]; rfl
    have hst8 := unbe_take8 (a.drop 2)
    have hls8 := unbe_take8 (a.drop 10)
    generalize saysF num a b = S at *
    generalize unbe ((a.drop 2).take 8) = st at *
    generalize unbe ((a.drop 10).take 8) = ls at *
    generalize a.getD 18 0 = d8 at *
    have hcx2 : Cx'[ox + Int.toNat 0 * 1]? = some (u8c d8) := hcx
    have hl46 : ρ.le ρ6 := Hp.le_trans hl1 (Hp.le_trans hl2 (Hp.le_trans hl5 hl6))
    by_cases hbig : 83 < d8.toNat
    · rw [if_pos hbig] at hsF
      subst hsF
      repeat' (first | (refine i_op ?_; first | (refine i_qq ?_; refine qQ ?_) | refine qEf ?_ | refine qAn ?_ | refine qXo ?_ | refine qNt ?_) | refine tl_nil ?_ | (refine i_tc ?_; refine qTc ?_) | (refine i_te ?_; refine qTe ?_) | intro _)
      exact qE (L' := []) ⟨hl46, ⟨none, 0, 0, none, 0, 0⟩, rfl, CIn.nil, rfl⟩
    · rw [if_neg hbig] at hsF
      have hsub := hs7.sub (lo' := 1) (hi' := 1 + d8.toNat) (by omega) (by omega) (cap := c7) (by omega)
      rw [show 1 + d8.toNat - 1 = d8.toNat by omega] at hsub
      have htc := takeCont_spec _ _ d8.toNat (c7 - 1) _ hsub (by omega)
      have hok := @takeCont_ok ((dat.drop 1).take d8.toNat)
      generalize takeContR ((dat.drop 1).take d8.toNat) = r at *
      obtain ⟨cc, kk, ec⟩ := r
      dsimp only at hsF htc hok
      have hq1 : ((1 : Int) + (d8.toNat : Int)).toNat - Int.toNat 1 = d8.toNat := by omega
      repeat' (first | (simp only [hq1]; refine tl_is (.func 142) ?_; refine qC rfl rfl htc ?_; rintro v8 ρ8 L8 hle8 ⟨hl8, w, rfl, hC, rfl⟩; simp only [List.cons_append, List.nil_append]) | (refine i_op ?_; first | (refine i_qq ?_; refine qQ ?_) | refine qEf ?_ | refine qAn ?_ | refine qXo ?_ | refine qNt ?_) | refine tl_nil ?_ | (refine i_tc ?_; refine qTc ?_) | (refine i_te ?_; refine qTe ?_) | intro _)
      have hb8 := Hp.at' (Hp.le_trans hl2 (Hp.le_trans hl5 (Hp.le_trans hl6 hl8))) hbs
      dsimp only at hb8
      have hl48 := Hp.le_trans hl46 hl8
      by_cases h1 : ec = 0
      · obtain ⟨n1, rfl, _, hco, _, hcf⟩ := hok h1
        have hir : ∀ r ∈ cc.rows, r.id < 65536 := fun r hr => (hcf.row r hr).id
        have hik : ∀ k ∈ cc.kids, k.id < 65536 := fun k hk => (hcf.kid k hk).id
        by_cases h2 : (n1 : Int) = d8.toNat
        · by_cases h3 : 0 < st
          · have hEq : EqC Try.prog 8 110 (.agg ⟨(partF num st ls cc 0 ++ partF num st ls cc 1).map u8c⟩) (.agg ⟨(a ++ b).map u8c⟩) (decide (partF num st ls cc 0 ++ partF num st ls cc 1 = a ++ b)) := eqC_two (m := 5) _ _ _ _ (partF_len _ _ _ _ (by omega)) (partF_len _ _ _ _ (by omega)) ha hb
            have h3' : (0 : Int) < ((st : Nat) : Int) := by omega
            by_cases h4 : partF num st ls cc 0 ++ partF num st ls cc 1 = a ++ b
            · rw [decide_eq_true h4] at hEq
              refine tc_any (Stays _ _ ([])) (stays_of (hT := tk) (Hp.le_refl _)) ?_
              all_goals refine rMv 0 ?_
              all_goals refine rCm 1 ?_
              all_goals refine rMv 2 ?_
              all_goals (first | refine wSkip 3 ?_ | refine wSkipU 3 ?_ | refine wMv 3 ?_ | (refine tr_guard (t := 52) rfl (fun hb => ?_) (fun hb => ?_) <;> (try simp only [decide_eq_true_eq, decide_eq_false_iff_not, Bool.not_eq_true, Bool.not_eq_false, beq_iff_eq, bne_iff_ne, ne_eq, Bool.not_eq_eq_eq_not, Bool.not_true, Bool.not_false, beq_eq_false_iff_ne, bne_eq_false_iff_eq] at hb) <;> first | refine wSkip 3 ?_ | refine wSkipU 3 ?_ | refine wMv 3 ?_))
              all_goals (first | refine wSkip 4 ?_ | refine wSkipU 4 ?_ | refine wMv 4 ?_ | (refine tr_guard (t := 52) rfl (fun hb => ?_) (fun hb => ?_) <;> (try simp only [decide_eq_true_eq, decide_eq_false_iff_not, Bool.not_eq_true, Bool.not_eq_false, beq_iff_eq, bne_iff_ne, ne_eq, Bool.not_eq_eq_eq_not, Bool.not_true, Bool.not_false, beq_eq_false_iff_ne, bne_eq_false_iff_eq] at hb) <;> first | refine wSkip 4 ?_ | refine wSkipU 4 ?_ | refine wMv 4 ?_))
              all_goals (first | refine wSkip 5 ?_ | refine wSkipU 5 ?_ | refine wSb 5 ?_ | (refine tr_guard (t := 52) rfl (fun hb => ?_) (fun hb => ?_) <;> (try simp only [decide_eq_true_eq, decide_eq_false_iff_not, Bool.not_eq_true, Bool.not_eq_false, beq_iff_eq, bne_iff_ne, ne_eq, Bool.not_eq_eq_eq_not, Bool.not_true, Bool.not_false, beq_eq_false_iff_ne, bne_eq_false_iff_eq] at hb) <;> first | refine wSkip 5 ?_ | refine wSkipU 5 ?_ | refine wSb 5 ?_))
              all_goals (first | refine wSkip 6 ?_ | refine wSkipU 6 ?_ | refine wCm 6 ?_ | (refine tr_guard (t := 52) rfl (fun hb => ?_) (fun hb => ?_) <;> (try simp only [decide_eq_true_eq, decide_eq_false_iff_not, Bool.not_eq_true, Bool.not_eq_false, beq_iff_eq, bne_iff_ne, ne_eq, Bool.not_eq_eq_eq_not, Bool.not_true, Bool.not_false, beq_eq_false_iff_ne, bne_eq_false_iff_eq] at hb) <;> first | refine wSkip 6 ?_ | refine wSkipU 6 ?_ | refine wCm 6 ?_))
              all_goals refine rPk 7 ?_
              all_goals refine rMv 8 ?_
              all_goals (first | refine wSkip 9 ?_ | refine wSkipU 9 ?_ | refine wFa 9 ?_ | (refine tr_guard (t := 58) rfl (fun hb => ?_) (fun hb => ?_) <;> (try simp only [decide_eq_true_eq, decide_eq_false_iff_not, Bool.not_eq_true, Bool.not_eq_false, beq_iff_eq, bne_iff_ne, ne_eq, Bool.not_eq_eq_eq_not, Bool.not_true, Bool.not_false, beq_eq_false_iff_ne, bne_eq_false_iff_eq] at hb) <;> first | refine wSkip 9 ?_ | refine wSkipU 9 ?_ | refine wFa 9 ?_))
              all_goals (first | refine wSkip 10 ?_ | refine wSkipU 10 ?_ | (refine rStep (i := 10) ?_; ((try refine qWant ?_); (first | (refine tl_is (.func 75) ?_; refine qC rfl rfl (parts_spec _ num hnum ⟨st, ls, cc, false, 0⟩ w hC hco hir hik hst8 hls8) ?_; rintro v9 ρ9 L9 hle9 ⟨rfl, hl9, rfl⟩; simp only [List.cons_append, List.nil_append]) | (refine i_qq ?_; refine qQ ?_) | (refine qEf ?_; try intro _)) <;> ((try simp only [List.cons_append, List.nil_append, List.append_eq]); refine tl_nil ?_; refine rNext ?_))))
              all_goals (first | refine wSkip 11 ?_ | refine wSkipU 11 ?_ | refine wCm 11 ?_ | (refine tr_guard (t := 58) rfl (fun hb => ?_) (fun hb => ?_) <;> (try simp only [decide_eq_true_eq, decide_eq_false_iff_not, Bool.not_eq_true, Bool.not_eq_false, beq_iff_eq, bne_iff_ne, ne_eq, Bool.not_eq_eq_eq_not, Bool.not_true, Bool.not_false, beq_eq_false_iff_ne, bne_eq_false_iff_eq] at hb) <;> first | refine wSkip 11 ?_ | refine wSkipU 11 ?_ | refine wCm 11 ?_))
              all_goals refine rPk 12 ?_
              all_goals refine rMv 13 ?_
              all_goals (first | refine wSkip 14 ?_ | refine wSkipU 14 ?_ | refine wMv 14 ?_ | (refine tr_guard (t := 63) rfl (fun hb => ?_) (fun hb => ?_) <;> (try simp only [decide_eq_true_eq, decide_eq_false_iff_not, Bool.not_eq_true, Bool.not_eq_false, beq_iff_eq, bne_iff_ne, ne_eq, Bool.not_eq_eq_eq_not, Bool.not_true, Bool.not_false, beq_eq_false_iff_ne, bne_eq_false_iff_eq] at hb) <;> first | refine wSkip 14 ?_ | refine wSkipU 14 ?_ | refine wMv 14 ?_))
              all_goals (first | refine wSkip 17 ?_ | refine wSkipU 17 ?_ | refine wLd 17 ?_ | (refine tr_guard (t := 63) rfl (fun hb => ?_) (fun hb => ?_) <;> (try simp only [decide_eq_true_eq, decide_eq_false_iff_not, Bool.not_eq_true, Bool.not_eq_false, beq_iff_eq, bne_iff_ne, ne_eq, Bool.not_eq_eq_eq_not, Bool.not_true, Bool.not_false, beq_eq_false_iff_ne, bne_eq_false_iff_eq] at hb) <;> first | refine wSkip 17 ?_ | refine wSkipU 17 ?_ | refine wLd 17 ?_))
              all_goals (first | refine wSkip 15 ?_ | refine wSkipU 15 ?_ | (refine rStep (i := 15) ?_; ((try refine qWant ?_); (first | (refine tl_is (.func 75) ?_; refine qC rfl rfl (parts_spec _ num hnum ⟨st, ls, cc, false, 0⟩ w hC hco hir hik hst8 hls8) ?_; rintro v9 ρ9 L9 hle9 ⟨rfl, hl9, rfl⟩; simp only [List.cons_append, List.nil_append]) | (refine i_qq ?_; refine qQ ?_) | (refine qEf ?_; try intro _)) <;> ((try simp only [List.cons_append, List.nil_append, List.append_eq]); refine tl_nil ?_; refine rNext ?_))))
              all_goals (first | refine wSkip 16 ?_ | refine wSkipU 16 ?_ | (refine rStep (i := 16) ?_; ((try refine qWant ?_); (first | (refine tl_is (.func 75) ?_; refine qC rfl rfl (parts_spec _ num hnum ⟨st, ls, cc, false, 0⟩ w hC hco hir hik hst8 hls8) ?_; rintro v9 ρ9 L9 hle9 ⟨rfl, hl9, rfl⟩; simp only [List.cons_append, List.nil_append]) | (refine i_qq ?_; refine qQ ?_) | (refine qEf ?_; try intro _)) <;> ((try simp only [List.cons_append, List.nil_append, List.append_eq]); refine tl_nil ?_; refine rNext ?_))))
              all_goals (first | refine wSkip 18 ?_ | refine wSkipU 18 ?_ | refine wCm 18 ?_ | (refine tr_guard (t := 63) rfl (fun hb => ?_) (fun hb => ?_) <;> (try simp only [decide_eq_true_eq, decide_eq_false_iff_not, Bool.not_eq_true, Bool.not_eq_false, beq_iff_eq, bne_iff_ne, ne_eq, Bool.not_eq_eq_eq_not, Bool.not_true, Bool.not_false, beq_eq_false_iff_ne, bne_eq_false_iff_eq] at hb) <;> first | refine wSkip 18 ?_ | refine wSkipU 18 ?_ | refine wCm 18 ?_))
              all_goals refine rPk 19 ?_
              all_goals refine rFa 20 ?_
              all_goals (refine rStep (i := 21) ?_; ((try refine qWant ?_); (first | (refine i_qq ?_; refine qQ ?_) | (refine qEf ?_; try intro _)) <;> ((try simp only [List.cons_append, List.nil_append, List.append_eq]); refine tl_nil ?_; refine rNext ?_)))
              all_goals refine rDone ?_
              all_goals (repeat' (first | (refine i_op ?_; first | (refine i_qq ?_; refine qQ ?_) | refine qEf ?_ | refine qAn ?_ | refine qXo ?_ | refine qNt ?_) | refine tl_nil ?_ | (refine i_tc ?_; refine qTc ?_) | (refine i_te ?_; refine qTe ?_) | intro _))
              all_goals have hv : S = ⟨st, ls, cc, true, 0⟩ := by rw [hsF]; congr 1; exact decide_eq_true ⟨h1, h2, h3, h4⟩
              all_goals subst hv
              all_goals have hfin := Hp.le_trans hl48 hl9
              all_goals exact qE (L' := []) ⟨hfin, w, rfl, hC.mono hl9, rfl⟩
            · rw [decide_eq_false h4] at hEq
              refine tc_any (Stays _ _ ([])) (stays_of (hT := tk) (Hp.le_refl _)) ?_
              all_goals refine rMv 0 ?_
              all_goals refine rCm 1 ?_
              all_goals refine rMv 2 ?_
              all_goals (first | refine wSkip 3 ?_ | refine wSkipU 3 ?_ | refine wMv 3 ?_ | (refine tr_guard (t := 52) rfl (fun hb => ?_) (fun hb => ?_) <;> (try simp only [decide_eq_true_eq, decide_eq_false_iff_not, Bool.not_eq_true, Bool.not_eq_false, beq_iff_eq, bne_iff_ne, ne_eq, Bool.not_eq_eq_eq_not, Bool.not_true, Bool.not_false, beq_eq_false_iff_ne, bne_eq_false_iff_eq] at hb) <;> first | refine wSkip 3 ?_ | refine wSkipU 3 ?_ | refine wMv 3 ?_))
              all_goals (first | refine wSkip 4 ?_ | refine wSkipU 4 ?_ | refine wMv 4 ?_ | (refine tr_guard (t := 52) rfl (fun hb => ?_) (fun hb => ?_) <;> (try simp only [decide_eq_true_eq, decide_eq_false_iff_not, Bool.not_eq_true, Bool.not_eq_false, beq_iff_eq, bne_iff_ne, ne_eq, Bool.not_eq_eq_eq_not, Bool.not_true, Bool.not_false, beq_eq_false_iff_ne, bne_eq_false_iff_eq] at hb) <;> first | refine wSkip 4 ?_ | refine wSkipU 4 ?_ | refine wMv 4 ?_))
              all_goals (first | refine wSkip 5 ?_ | refine wSkipU 5 ?_ | refine wSb 5 ?_ | (refine tr_guard (t := 52) rfl (fun hb => ?_) (fun hb => ?_) <;> (try simp only [decide_eq_true_eq, decide_eq_false_iff_not, Bool.not_eq_true, Bool.not_eq_false, beq_iff_eq, bne_iff_ne, ne_eq, Bool.not_eq_eq_eq_not, Bool.not_true, Bool.not_false, beq_eq_false_iff_ne, bne_eq_false_iff_eq] at hb) <;> first | refine wSkip 5 ?_ | refine wSkipU 5 ?_ | refine wSb 5 ?_))
              all_goals (first | refine wSkip 6 ?_ | refine wSkipU 6 ?_ | refine wCm 6 ?_ | (refine tr_guard (t := 52) rfl (fun hb => ?_) (fun hb => ?_) <;> (try simp only [decide_eq_true_eq, decide_eq_false_iff_not, Bool.not_eq_true, Bool.not_eq_false, beq_iff_eq, bne_iff_ne, ne_eq, Bool.not_eq_eq_eq_not, Bool.not_true, Bool.not_false, beq_eq_false_iff_ne, bne_eq_false_iff_eq] at hb) <;> first | refine wSkip 6 ?_ | refine wSkipU 6 ?_ | refine wCm 6 ?_))
              all_goals refine rPk 7 ?_
              all_goals refine rMv 8 ?_
              all_goals (first | refine wSkip 9 ?_ | refine wSkipU 9 ?_ | refine wFa 9 ?_ | (refine tr_guard (t := 58) rfl (fun hb => ?_) (fun hb => ?_) <;> (try simp only [decide_eq_true_eq, decide_eq_false_iff_not, Bool.not_eq_true, Bool.not_eq_false, beq_iff_eq, bne_iff_ne, ne_eq, Bool.not_eq_eq_eq_not, Bool.not_true, Bool.not_false, beq_eq_false_iff_ne, bne_eq_false_iff_eq] at hb) <;> first | refine wSkip 9 ?_ | refine wSkipU 9 ?_ | refine wFa 9 ?_))
              all_goals (first | refine wSkip 10 ?_ | refine wSkipU 10 ?_ | (refine rStep (i := 10) ?_; ((try refine qWant ?_); (first | (refine tl_is (.func 75) ?_; refine qC rfl rfl (parts_spec _ num hnum ⟨st, ls, cc, false, 0⟩ w hC hco hir hik hst8 hls8) ?_; rintro v9 ρ9 L9 hle9 ⟨rfl, hl9, rfl⟩; simp only [List.cons_append, List.nil_append]) | (refine i_qq ?_; refine qQ ?_) | (refine qEf ?_; try intro _)) <;> ((try simp only [List.cons_append, List.nil_append, List.append_eq]); refine tl_nil ?_; refine rNext ?_))))
              all_goals (first | refine wSkip 11 ?_ | refine wSkipU 11 ?_ | refine wCm 11 ?_ | (refine tr_guard (t := 58) rfl (fun hb => ?_) (fun hb => ?_) <;> (try simp only [decide_eq_true_eq, decide_eq_false_iff_not, Bool.not_eq_true, Bool.not_eq_false, beq_iff_eq, bne_iff_ne, ne_eq, Bool.not_eq_eq_eq_not, Bool.not_true, Bool.not_false, beq_eq_false_iff_ne, bne_eq_false_iff_eq] at hb) <;> first | refine wSkip 11 ?_ | refine wSkipU 11 ?_ | refine wCm 11 ?_))
              all_goals refine rPk 12 ?_
              all_goals refine rMv 13 ?_
              all_goals (first | refine wSkip 14 ?_ | refine wSkipU 14 ?_ | refine wMv 14 ?_ | (refine tr_guard (t := 63) rfl (fun hb => ?_) (fun hb => ?_) <;> (try simp only [decide_eq_true_eq, decide_eq_false_iff_not, Bool.not_eq_true, Bool.not_eq_false, beq_iff_eq, bne_iff_ne, ne_eq, Bool.not_eq_eq_eq_not, Bool.not_true, Bool.not_false, beq_eq_false_iff_ne, bne_eq_false_iff_eq] at hb) <;> first | refine wSkip 14 ?_ | refine wSkipU 14 ?_ | refine wMv 14 ?_))
              all_goals (first | refine wSkip 17 ?_ | refine wSkipU 17 ?_ | refine wLd 17 ?_ | (refine tr_guard (t := 63) rfl (fun hb => ?_) (fun hb => ?_) <;> (try simp only [decide_eq_true_eq, decide_eq_false_iff_not, Bool.not_eq_true, Bool.not_eq_false, beq_iff_eq, bne_iff_ne, ne_eq, Bool.not_eq_eq_eq_not, Bool.not_true, Bool.not_false, beq_eq_false_iff_ne, bne_eq_false_iff_eq] at hb) <;> first | refine wSkip 17 ?_ | refine wSkipU 17 ?_ | refine wLd 17 ?_))
              all_goals (first | refine wSkip 15 ?_ | refine wSkipU 15 ?_ | (refine rStep (i := 15) ?_; ((try refine qWant ?_); (first | (refine tl_is (.func 75) ?_; refine qC rfl rfl (parts_spec _ num hnum ⟨st, ls, cc, false, 0⟩ w hC hco hir hik hst8 hls8) ?_; rintro v9 ρ9 L9 hle9 ⟨rfl, hl9, rfl⟩; simp only [List.cons_append, List.nil_append]) | (refine i_qq ?_; refine qQ ?_) | (refine qEf ?_; try intro _)) <;> ((try simp only [List.cons_append, List.nil_append, List.append_eq]); refine tl_nil ?_; refine rNext ?_))))
              all_goals (first | refine wSkip 16 ?_ | refine wSkipU 16 ?_ | (refine rStep (i := 16) ?_; ((try refine qWant ?_); (first | (refine tl_is (.func 75) ?_; refine qC rfl rfl (parts_spec _ num hnum ⟨st, ls, cc, false, 0⟩ w hC hco hir hik hst8 hls8) ?_; rintro v9 ρ9 L9 hle9 ⟨rfl, hl9, rfl⟩; simp only [List.cons_append, List.nil_append]) | (refine i_qq ?_; refine qQ ?_) | (refine qEf ?_; try intro _)) <;> ((try simp only [List.cons_append, List.nil_append, List.append_eq]); refine tl_nil ?_; refine rNext ?_))))
              all_goals (first | refine wSkip 18 ?_ | refine wSkipU 18 ?_ | refine wCm 18 ?_ | (refine tr_guard (t := 63) rfl (fun hb => ?_) (fun hb => ?_) <;> (try simp only [decide_eq_true_eq, decide_eq_false_iff_not, Bool.not_eq_true, Bool.not_eq_false, beq_iff_eq, bne_iff_ne, ne_eq, Bool.not_eq_eq_eq_not, Bool.not_true, Bool.not_false, beq_eq_false_iff_ne, bne_eq_false_iff_eq] at hb) <;> first | refine wSkip 18 ?_ | refine wSkipU 18 ?_ | refine wCm 18 ?_))
              all_goals refine rPk 19 ?_
              all_goals refine rFa 20 ?_
              all_goals (refine rStep (i := 21) ?_; ((try refine qWant ?_); (first | (refine i_qq ?_; refine qQ ?_) | (refine qEf ?_; try intro _)) <;> ((try simp only [List.cons_append, List.nil_append, List.append_eq]); refine tl_nil ?_; refine rNext ?_)))
              all_goals refine rDone ?_
              all_goals (repeat' (first | (refine i_op ?_; first | (refine i_qq ?_; refine qQ ?_) | refine qEf ?_ | refine qAn ?_ | refine qXo ?_ | refine qNt ?_) | refine tl_nil ?_ | (refine i_tc ?_; refine qTc ?_) | (refine i_te ?_; refine qTe ?_) | intro _))
              all_goals have hv : S = ⟨st, ls, cc, false, 0⟩ := by rw [hsF]; congr 1; exact decide_eq_false (fun hh => h4 hh.2.2.2)
              all_goals subst hv
              all_goals have hfin := Hp.le_trans hl48 hl9
              all_goals exact qE (L' := []) ⟨hfin, w, rfl, hC.mono hl9, rfl⟩
          · have h3' : ¬ (0 : Int) < ((st : Nat) : Int) := by omega
            refine tc_any (Stays _ _ ([])) (stays_of (hT := tk) (Hp.le_refl _)) ?_
            all_goals refine rMv 0 ?_
            all_goals refine rCm 1 ?_
            all_goals refine rMv 2 ?_
            all_goals (first | refine wSkip 3 ?_ | refine wSkipU 3 ?_ | refine wMv 3 ?_ | (refine tr_guard (t := 52) rfl (fun hb => ?_) (fun hb => ?_) <;> (try simp only [decide_eq_true_eq, decide_eq_false_iff_not, Bool.not_eq_true, Bool.not_eq_false, beq_iff_eq, bne_iff_ne, ne_eq, Bool.not_eq_eq_eq_not, Bool.not_true, Bool.not_false, beq_eq_false_iff_ne, bne_eq_false_iff_eq] at hb) <;> first | refine wSkip 3 ?_ | refine wSkipU 3 ?_ | refine wMv 3 ?_))
            all_goals (first | refine wSkip 4 ?_ | refine wSkipU 4 ?_ | refine wMv 4 ?_ | (refine tr_guard (t := 52) rfl (fun hb => ?_) (fun hb => ?_) <;> (try simp only [decide_eq_true_eq, decide_eq_false_iff_not, Bool.not_eq_true, Bool.not_eq_false, beq_iff_eq, bne_iff_ne, ne_eq, Bool.not_eq_eq_eq_not, Bool.not_true, Bool.not_false, beq_eq_false_iff_ne, bne_eq_false_iff_eq] at hb) <;> first | refine wSkip 4 ?_ | refine wSkipU 4 ?_ | refine wMv 4 ?_))
            all_goals (first | refine wSkip 5 ?_ | refine wSkipU 5 ?_ | refine wSb 5 ?_ | (refine tr_guard (t := 52) rfl (fun hb => ?_) (fun hb => ?_) <;> (try simp only [decide_eq_true_eq, decide_eq_false_iff_not, Bool.not_eq_true, Bool.not_eq_false, beq_iff_eq, bne_iff_ne, ne_eq, Bool.not_eq_eq_eq_not, Bool.not_true, Bool.not_false, beq_eq_false_iff_ne, bne_eq_false_iff_eq] at hb) <;> first | refine wSkip 5 ?_ | refine wSkipU 5 ?_ | refine wSb 5 ?_))
            all_goals (first | refine wSkip 6 ?_ | refine wSkipU 6 ?_ | refine wCm 6 ?_ | (refine tr_guard (t := 52) rfl (fun hb => ?_) (fun hb => ?_) <;> (try simp only [decide_eq_true_eq, decide_eq_false_iff_not, Bool.not_eq_true, Bool.not_eq_false, beq_iff_eq, bne_iff_ne, ne_eq, Bool.not_eq_eq_eq_not, Bool.not_true, Bool.not_false, beq_eq_false_iff_ne, bne_eq_false_iff_eq] at hb) <;> first | refine wSkip 6 ?_ | refine wSkipU 6 ?_ | refine wCm 6 ?_))
            all_goals refine rPk 7 ?_
            all_goals refine rMv 8 ?_
            all_goals (first | refine wSkip 9 ?_ | refine wSkipU 9 ?_ | refine wFa 9 ?_ | (refine tr_guard (t := 58) rfl (fun hb => ?_) (fun hb => ?_) <;> (try simp only [decide_eq_true_eq, decide_eq_false_iff_not, Bool.not_eq_true, Bool.not_eq_false, beq_iff_eq, bne_iff_ne, ne_eq, Bool.not_eq_eq_eq_not, Bool.not_true, Bool.not_false, beq_eq_false_iff_ne, bne_eq_false_iff_eq] at hb) <;> first | refine wSkip 9 ?_ | refine wSkipU 9 ?_ | refine wFa 9 ?_))
            all_goals (first | refine wSkip 10 ?_ | refine wSkipU 10 ?_ | (refine rStep (i := 10) ?_; ((try refine qWant ?_); (first | (refine i_qq ?_; refine qQ ?_) | (refine qEf ?_; try intro _)) <;> ((try simp only [List.cons_append, List.nil_append, List.append_eq]); refine tl_nil ?_; refine rNext ?_))))
            all_goals (first | refine wSkip 11 ?_ | refine wSkipU 11 ?_ | refine wCm 11 ?_ | (refine tr_guard (t := 58) rfl (fun hb => ?_) (fun hb => ?_) <;> (try simp only [decide_eq_true_eq, decide_eq_false_iff_not, Bool.not_eq_true, Bool.not_eq_false, beq_iff_eq, bne_iff_ne, ne_eq, Bool.not_eq_eq_eq_not, Bool.not_true, Bool.not_false, beq_eq_false_iff_ne, bne_eq_false_iff_eq] at hb) <;> first | refine wSkip 11 ?_ | refine wSkipU 11 ?_ | refine wCm 11 ?_))
            all_goals refine rPk 12 ?_
            all_goals refine rMv 13 ?_
            all_goals (first | refine wSkip 14 ?_ | refine wSkipU 14 ?_ | refine wMv 14 ?_ | (refine tr_guard (t := 63) rfl (fun hb => ?_) (fun hb => ?_) <;> (try simp only [decide_eq_true_eq, decide_eq_false_iff_not, Bool.not_eq_true, Bool.not_eq_false, beq_iff_eq, bne_iff_ne, ne_eq, Bool.not_eq_eq_eq_not, Bool.not_true, Bool.not_false, beq_eq_false_iff_ne, bne_eq_false_iff_eq] at hb) <;> first | refine wSkip 14 ?_ | refine wSkipU 14 ?_ | refine wMv 14 ?_))
            all_goals (first | refine wSkip 17 ?_ | refine wSkipU 17 ?_ | refine wLd 17 ?_ | (refine tr_guard (t := 63) rfl (fun hb => ?_) (fun hb => ?_) <;> (try simp only [decide_eq_true_eq, decide_eq_false_iff_not, Bool.not_eq_true, Bool.not_eq_false, beq_iff_eq, bne_iff_ne, ne_eq, Bool.not_eq_eq_eq_not, Bool.not_true, Bool.not_false, beq_eq_false_iff_ne, bne_eq_false_iff_eq] at hb) <;> first | refine wSkip 17 ?_ | refine wSkipU 17 ?_ | refine wLd 17 ?_))
            all_goals (first | refine wSkip 15 ?_ | refine wSkipU 15 ?_ | (refine rStep (i := 15) ?_; ((try refine qWant ?_); (first | (refine i_qq ?_; refine qQ ?_) | (refine qEf ?_; try intro _)) <;> ((try simp only [List.cons_append, List.nil_append, List.append_eq]); refine tl_nil ?_; refine rNext ?_))))
            all_goals (first | refine wSkip 16 ?_ | refine wSkipU 16 ?_ | (refine rStep (i := 16) ?_; ((try refine qWant ?_); (first | (refine i_qq ?_; refine qQ ?_) | (refine qEf ?_; try intro _)) <;> ((try simp only [List.cons_append, List.nil_append, List.append_eq]); refine tl_nil ?_; refine rNext ?_))))
            all_goals (first | refine wSkip 18 ?_ | refine wSkipU 18 ?_ | refine wCm 18 ?_ | (refine tr_guard (t := 63) rfl (fun hb => ?_) (fun hb => ?_) <;> (try simp only [decide_eq_true_eq, decide_eq_false_iff_not, Bool.not_eq_true, Bool.not_eq_false, beq_iff_eq, bne_iff_ne, ne_eq, Bool.not_eq_eq_eq_not, Bool.not_true, Bool.not_false, beq_eq_false_iff_ne, bne_eq_false_iff_eq] at hb) <;> first | refine wSkip 18 ?_ | refine wSkipU 18 ?_ | refine wCm 18 ?_))
            all_goals refine rPk 19 ?_
            all_goals refine rFa 20 ?_
            all_goals (refine rStep (i := 21) ?_; ((try refine qWant ?_); (first | (refine i_qq ?_; refine qQ ?_) | (refine qEf ?_; try intro _)) <;> ((try simp only [List.cons_append, List.nil_append, List.append_eq]); refine tl_nil ?_; refine rNext ?_)))
            all_goals refine rDone ?_
            all_goals (repeat' (first | (refine i_op ?_; first | (refine i_qq ?_; refine qQ ?_) | refine qEf ?_ | refine qAn ?_ | refine qXo ?_ | refine qNt ?_) | refine tl_nil ?_ | (refine i_tc ?_; refine qTc ?_) | (refine i_te ?_; refine qTe ?_) | intro _))
            all_goals have hv : S = ⟨st, ls, cc, false, 0⟩ := by rw [hsF]; congr 1; exact decide_eq_false (fun hh => h3 hh.2.2.1)
            all_goals subst hv
            all_goals have hfin := hl48
            all_goals exact qE (L' := []) ⟨hfin, w, rfl, hC, rfl⟩
        · refine tc_any (Stays _ _ ([])) (stays_of (hT := tk) (Hp.le_refl _)) ?_
          all_goals refine rMv 0 ?_
          all_goals refine rCm 1 ?_
          all_goals refine rMv 2 ?_
          all_goals (first | refine wSkip 3 ?_ | refine wSkipU 3 ?_ | refine wMv 3 ?_ | (refine tr_guard (t := 52) rfl (fun hb => ?_) (fun hb => ?_) <;> (try simp only [decide_eq_true_eq, decide_eq_false_iff_not, Bool.not_eq_true, Bool.not_eq_false, beq_iff_eq, bne_iff_ne, ne_eq, Bool.not_eq_eq_eq_not, Bool.not_true, Bool.not_false, beq_eq_false_iff_ne, bne_eq_false_iff_eq] at hb) <;> first | refine wSkip 3 ?_ | refine wSkipU 3 ?_ | refine wMv 3 ?_))
          all_goals (first | refine wSkip 4 ?_ | refine wSkipU 4 ?_ | refine wMv 4 ?_ | (refine tr_guard (t := 52) rfl (fun hb => ?_) (fun hb => ?_) <;> (try simp only [decide_eq_true_eq, decide_eq_false_iff_not, Bool.not_eq_true, Bool.not_eq_false, beq_iff_eq, bne_iff_ne, ne_eq, Bool.not_eq_eq_eq_not, Bool.not_true, Bool.not_false, beq_eq_false_iff_ne, bne_eq_false_iff_eq] at hb) <;> first | refine wSkip 4 ?_ | refine wSkipU 4 ?_ | refine wMv 4 ?_))
          all_goals (first | refine wSkip 5 ?_ | refine wSkipU 5 ?_ | refine wSb 5 ?_ | (refine tr_guard (t := 52) rfl (fun hb => ?_) (fun hb => ?_) <;> (try simp only [decide_eq_true_eq, decide_eq_false_iff_not, Bool.not_eq_true, Bool.not_eq_false, beq_iff_eq, bne_iff_ne, ne_eq, Bool.not_eq_eq_eq_not, Bool.not_true, Bool.not_false, beq_eq_false_iff_ne, bne_eq_false_iff_eq] at hb) <;> first | refine wSkip 5 ?_ | refine wSkipU 5 ?_ | refine wSb 5 ?_))
          all_goals (first | refine wSkip 6 ?_ | refine wSkipU 6 ?_ | refine wCm 6 ?_ | (refine tr_guard (t := 52) rfl (fun hb => ?_) (fun hb => ?_) <;> (try simp only [decide_eq_true_eq, decide_eq_false_iff_not, Bool.not_eq_true, Bool.not_eq_false, beq_iff_eq, bne_iff_ne, ne_eq, Bool.not_eq_eq_eq_not, Bool.not_true, Bool.not_false, beq_eq_false_iff_ne, bne_eq_false_iff_eq] at hb) <;> first | refine wSkip 6 ?_ | refine wSkipU 6 ?_ | refine wCm 6 ?_))
          all_goals refine rPk 7 ?_
          all_goals refine rMv 8 ?_
          all_goals (first | refine wSkip 9 ?_ | refine wSkipU 9 ?_ | refine wFa 9 ?_ | (refine tr_guard (t := 58) rfl (fun hb => ?_) (fun hb => ?_) <;> (try simp only [decide_eq_true_eq, decide_eq_false_iff_not, Bool.not_eq_true, Bool.not_eq_false, beq_iff_eq, bne_iff_ne, ne_eq, Bool.not_eq_eq_eq_not, Bool.not_true, Bool.not_false, beq_eq_false_iff_ne, bne_eq_false_iff_eq] at hb) <;> first | refine wSkip 9 ?_ | refine wSkipU 9 ?_ | refine wFa 9 ?_))
          all_goals (first | refine wSkip 10 ?_ | refine wSkipU 10 ?_ | (refine rStep (i := 10) ?_; ((try refine qWant ?_); (first | (refine i_qq ?_; refine qQ ?_) | (refine qEf ?_; try intro _)) <;> ((try simp only [List.cons_append, List.nil_append, List.append_eq]); refine tl_nil ?_; refine rNext ?_))))
          all_goals (first | refine wSkip 11 ?_ | refine wSkipU 11 ?_ | refine wCm 11 ?_ | (refine tr_guard (t := 58) rfl (fun hb => ?_) (fun hb => ?_) <;> (try simp only [decide_eq_true_eq, decide_eq_false_iff_not, Bool.not_eq_true, Bool.not_eq_false, beq_iff_eq, bne_iff_ne, ne_eq, Bool.not_eq_eq_eq_not, Bool.not_true, Bool.not_false, beq_eq_false_iff_ne, bne_eq_false_iff_eq] at hb) <;> first | refine wSkip 11 ?_ | refine wSkipU 11 ?_ | refine wCm 11 ?_))
          all_goals refine rPk 12 ?_
          all_goals refine rMv 13 ?_
          all_goals (first | refine wSkip 14 ?_ | refine wSkipU 14 ?_ | refine wMv 14 ?_ | (refine tr_guard (t := 63) rfl (fun hb => ?_) (fun hb => ?_) <;> (try simp only [decide_eq_true_eq, decide_eq_false_iff_not, Bool.not_eq_true, Bool.not_eq_false, beq_iff_eq, bne_iff_ne, ne_eq, Bool.not_eq_eq_eq_not, Bool.not_true, Bool.not_false, beq_eq_false_iff_ne, bne_eq_false_iff_eq] at hb) <;> first | refine wSkip 14 ?_ | refine wSkipU 14 ?_ | refine wMv 14 ?_))
          all_goals (first | refine wSkip 17 ?_ | refine wSkipU 17 ?_ | refine wLd 17 ?_ | (refine tr_guard (t := 63) rfl (fun hb => ?_) (fun hb => ?_) <;> (try simp only [decide_eq_true_eq, decide_eq_false_iff_not, Bool.not_eq_true, Bool.not_eq_false, beq_iff_eq, bne_iff_ne, ne_eq, Bool.not_eq_eq_eq_not, Bool.not_true, Bool.not_false, beq_eq_false_iff_ne, bne_eq_false_iff_eq] at hb) <;> first | refine wSkip 17 ?_ | refine wSkipU 17 ?_ | refine wLd 17 ?_))
          all_goals (first | refine wSkip 15 ?_ | refine wSkipU 15 ?_ | (refine rStep (i := 15) ?_; ((try refine qWant ?_); (first | (refine i_qq ?_; refine qQ ?_) | (refine qEf ?_; try intro _)) <;> ((try simp only [List.cons_append, List.nil_append, List.append_eq]); refine tl_nil ?_; refine rNext ?_))))
          all_goals (first | refine wSkip 16 ?_ | refine wSkipU 16 ?_ | (refine rStep (i := 16) ?_; ((try refine qWant ?_); (first | (refine i_qq ?_; refine qQ ?_) | (refine qEf ?_; try intro _)) <;> ((try simp only [List.cons_append, List.nil_append, List.append_eq]); refine tl_nil ?_; refine rNext ?_))))
          all_goals (first | refine wSkip 18 ?_ | refine wSkipU 18 ?_ | refine wCm 18 ?_ | (refine tr_guard (t := 63) rfl (fun hb => ?_) (fun hb => ?_) <;> (try simp only [decide_eq_true_eq, decide_eq_false_iff_not, Bool.not_eq_true, Bool.not_eq_false, beq_iff_eq, bne_iff_ne, ne_eq, Bool.not_eq_eq_eq_not, Bool.not_true, Bool.not_false, beq_eq_false_iff_ne, bne_eq_false_iff_eq] at hb) <;> first | refine wSkip 18 ?_ | refine wSkipU 18 ?_ | refine wCm 18 ?_))
          all_goals refine rPk 19 ?_
          all_goals refine rFa 20 ?_
          all_goals (refine rStep (i := 21) ?_; ((try refine qWant ?_); (first | (refine i_qq ?_; refine qQ ?_) | (refine qEf ?_; try intro _)) <;> ((try simp only [List.cons_append, List.nil_append, List.append_eq]); refine tl_nil ?_; refine rNext ?_)))
          all_goals refine rDone ?_
          all_goals (repeat' (first | (refine i_op ?_; first | (refine i_qq ?_; refine qQ ?_) | refine qEf ?_ | refine qAn ?_ | refine qXo ?_ | refine qNt ?_) | refine tl_nil ?_ | (refine i_tc ?_; refine qTc ?_) | (refine i_te ?_; refine qTe ?_) | intro _))
          all_goals have hv : S = ⟨st, ls, cc, false, 0⟩ := by rw [hsF]; congr 1; exact decide_eq_false (fun hh => h2 hh.2.1)
          all_goals subst hv
          all_goals have hfin := hl48
          all_goals exact qE (L' := []) ⟨hfin, w, rfl, hC, rfl⟩
      · refine tc_any (Stays _ _ ([])) (stays_of (hT := tk) (Hp.le_refl _)) ?_
        all_goals refine rMv 0 ?_
        all_goals refine rCm 1 ?_
        all_goals refine rMv 2 ?_
        all_goals (first | refine wSkip 3 ?_ | refine wSkipU 3 ?_ | refine wMv 3 ?_ | (refine tr_guard (t := 52) rfl (fun hb => ?_) (fun hb => ?_) <;> (try simp only [decide_eq_true_eq, decide_eq_false_iff_not, Bool.not_eq_true, Bool.not_eq_false, beq_iff_eq, bne_iff_ne, ne_eq, Bool.not_eq_eq_eq_not, Bool.not_true, Bool.not_false, beq_eq_false_iff_ne, bne_eq_false_iff_eq] at hb) <;> first | refine wSkip 3 ?_ | refine wSkipU 3 ?_ | refine wMv 3 ?_))
        all_goals (first | refine wSkip 4 ?_ | refine wSkipU 4 ?_ | refine wMv 4 ?_ | (refine tr_guard (t := 52) rfl (fun hb => ?_) (fun hb => ?_) <;> (try simp only [decide_eq_true_eq, decide_eq_false_iff_not, Bool.not_eq_true, Bool.not_eq_false, beq_iff_eq, bne_iff_ne, ne_eq, Bool.not_eq_eq_eq_not, Bool.not_true, Bool.not_false, beq_eq_false_iff_ne, bne_eq_false_iff_eq] at hb) <;> first | refine wSkip 4 ?_ | refine wSkipU 4 ?_ | refine wMv 4 ?_))
        all_goals (first | refine wSkip 5 ?_ | refine wSkipU 5 ?_ | refine wSb 5 ?_ | (refine tr_guard (t := 52) rfl (fun hb => ?_) (fun hb => ?_) <;> (try simp only [decide_eq_true_eq, decide_eq_false_iff_not, Bool.not_eq_true, Bool.not_eq_false, beq_iff_eq, bne_iff_ne, ne_eq, Bool.not_eq_eq_eq_not, Bool.not_true, Bool.not_false, beq_eq_false_iff_ne, bne_eq_false_iff_eq] at hb) <;> first | refine wSkip 5 ?_ | refine wSkipU 5 ?_ | refine wSb 5 ?_))
        all_goals (first | refine wSkip 6 ?_ | refine wSkipU 6 ?_ | refine wCm 6 ?_ | (refine tr_guard (t := 52) rfl (fun hb => ?_) (fun hb => ?_) <;> (try simp only [decide_eq_true_eq, decide_eq_false_iff_not, Bool.not_eq_true, Bool.not_eq_false, beq_iff_eq, bne_iff_ne, ne_eq, Bool.not_eq_eq_eq_not, Bool.not_true, Bool.not_false, beq_eq_false_iff_ne, bne_eq_false_iff_eq] at hb) <;> first | refine wSkip 6 ?_ | refine wSkipU 6 ?_ | refine wCm 6 ?_))
        all_goals refine rPk 7 ?_
        all_goals refine rMv 8 ?_
        all_goals (first | refine wSkip 9 ?_ | refine wSkipU 9 ?_ | refine wFa 9 ?_ | (refine tr_guard (t := 58) rfl (fun hb => ?_) (fun hb => ?_) <;> (try simp only [decide_eq_true_eq, decide_eq_false_iff_not, Bool.not_eq_true, Bool.not_eq_false, beq_iff_eq, bne_iff_ne, ne_eq, Bool.not_eq_eq_eq_not, Bool.not_true, Bool.not_false, beq_eq_false_iff_ne, bne_eq_false_iff_eq] at hb) <;> first | refine wSkip 9 ?_ | refine wSkipU 9 ?_ | refine wFa 9 ?_))
        all_goals (first | refine wSkip 10 ?_ | refine wSkipU 10 ?_ | (refine rStep (i := 10) ?_; ((try refine qWant ?_); (first | (refine i_qq ?_; refine qQ ?_) | (refine qEf ?_; try intro _)) <;> ((try simp only [List.cons_append, List.nil_append, List.append_eq]); refine tl_nil ?_; refine rNext ?_))))
        all_goals (first | refine wSkip 11 ?_ | refine wSkipU 11 ?_ | refine wCm 11 ?_ | (refine tr_guard (t := 58) rfl (fun hb => ?_) (fun hb => ?_) <;> (try simp only [decide_eq_true_eq, decide_eq_false_iff_not, Bool.not_eq_true, Bool.not_eq_false, beq_iff_eq, bne_iff_ne, ne_eq, Bool.not_eq_eq_eq_not, Bool.not_true, Bool.not_false, beq_eq_false_iff_ne, bne_eq_false_iff_eq] at hb) <;> first | refine wSkip 11 ?_ | refine wSkipU 11 ?_ | refine wCm 11 ?_))
        all_goals refine rPk 12 ?_
        all_goals refine rMv 13 ?_
        all_goals (first | refine wSkip 14 ?_ | refine wSkipU 14 ?_ | refine wMv 14 ?_ | (refine tr_guard (t := 63) rfl (fun hb => ?_) (fun hb => ?_) <;> (try simp only [decide_eq_true_eq, decide_eq_false_iff_not, Bool.not_eq_true, Bool.not_eq_false, beq_iff_eq, bne_iff_ne, ne_eq, Bool.not_eq_eq_eq_not, Bool.not_true, Bool.not_false, beq_eq_false_iff_ne, bne_eq_false_iff_eq] at hb) <;> first | refine wSkip 14 ?_ | refine wSkipU 14 ?_ | refine wMv 14 ?_))
        all_goals (first | refine wSkip 17 ?_ | refine wSkipU 17 ?_ | refine wLd 17 ?_ | (refine tr_guard (t := 63) rfl (fun hb => ?_) (fun hb => ?_) <;> (try simp only [decide_eq_true_eq, decide_eq_false_iff_not, Bool.not_eq_true, Bool.not_eq_false, beq_iff_eq, bne_iff_ne, ne_eq, Bool.not_eq_eq_eq_not, Bool.not_true, Bool.not_false, beq_eq_false_iff_ne, bne_eq_false_iff_eq] at hb) <;> first | refine wSkip 17 ?_ | refine wSkipU 17 ?_ | refine wLd 17 ?_))
        all_goals (first | refine wSkip 15 ?_ | refine wSkipU 15 ?_ | (refine rStep (i := 15) ?_; ((try refine qWant ?_); (first | (refine i_qq ?_; refine qQ ?_) | (refine qEf ?_; try intro _)) <;> ((try simp only [List.cons_append, List.nil_append, List.append_eq]); refine tl_nil ?_; refine rNext ?_))))
        all_goals (first | refine wSkip 16 ?_ | refine wSkipU 16 ?_ | (refine rStep (i := 16) ?_; ((try refine qWant ?_); (first | (refine i_qq ?_; refine qQ ?_) | (refine qEf ?_; try intro _)) <;> ((try simp only [List.cons_append, List.nil_append, List.append_eq]); refine tl_nil ?_; refine rNext ?_))))
        all_goals (first | refine wSkip 18 ?_ | refine wSkipU 18 ?_ | refine wCm 18 ?_ | (refine tr_guard (t := 63) rfl (fun hb => ?_) (fun hb => ?_) <;> (try simp only [decide_eq_true_eq, decide_eq_false_iff_not, Bool.not_eq_true, Bool.not_eq_false, beq_iff_eq, bne_iff_ne, ne_eq, Bool.not_eq_eq_eq_not, Bool.not_true, Bool.not_false, beq_eq_false_iff_ne, bne_eq_false_iff_eq] at hb) <;> first | refine wSkip 18 ?_ | refine wSkipU 18 ?_ | refine wCm 18 ?_))
        all_goals refine rPk 19 ?_
        all_goals refine rFa 20 ?_
        all_goals (refine rStep (i := 21) ?_; ((try refine qWant ?_); (first | (refine i_qq ?_; refine qQ ?_) | (refine qEf ?_; try intro _)) <;> ((try simp only [List.cons_append, List.nil_append, List.append_eq]); refine tl_nil ?_; refine rNext ?_)))
        all_goals refine rDone ?_
        all_goals (repeat' (first | (refine i_op ?_; first | (refine i_qq ?_; refine qQ ?_) | refine qEf ?_ | refine qAn ?_ | refine qXo ?_ | refine qNt ?_) | refine tl_nil ?_ | (refine i_tc ?_; refine qTc ?_) | (refine i_te ?_; refine qTe ?_) | intro _))
        all_goals have hv : S = ⟨st, ls, cc, false, 0⟩ := by rw [hsF]; congr 1; exact decide_eq_false (fun hh => h1 hh.1)
        all_goals subst hv
        all_goals have hfin := hl48
        all_goals exact qE (L' := []) ⟨hfin, w, rfl, hC, rfl⟩
end Go.Proofs.E

-- BITS
namespace Go.Proofs.E
open Go
set_option linter.unusedVariables false
set_option linter.unusedSimpArgs false
set_option linter.unusedSectionVars false
set_option maxRecDepth 4000
set_option maxHeartbeats 1000000
attribute [local irreducible] Yl TL TC TE Spec YSpec R1 Hp.le EnvLe TS TR YS Stays
def stampOf (b : Blk) : Nat := unbe ((b.drop 2).take 8)
theorem stampOf_lt (b : Blk) : stampOf b < 18446744073709551616 := unbe_take8 _
def PartOk (num i : Nat) (b : Blk) : Prop := (b.getD 0 0).toNat = num ∧ (b.getD 1 0).toNat = i ∧ unbe (b.drop 60) = sumB (b.take 60)
instance (num i : Nat) (b : Blk) : Decidable (PartOk num i b) := by unfold PartOk; infer_instance
def stampR (num i : Nat) (b : Blk) : Nat := if PartOk num i b then stampOf b else 0
def stampsF (num : Nat) (a b : Blk) : Nat := max (stampR num 0 a) (stampR num 1 b)
def stampsTo (num : Nat) (a b : Blk) (i : Nat) : Nat := if i = 0 then 0 else if i = 1 then stampR num 0 a else stampsF num a b
theorem stamps_spec (ρ : Hp) (num : Nat) (hnum : num < 64) (a b : Blk) (ha : a.length = 64) (hb : b.length = 64) :
    Spec Try.prog 133 [.int .i64 num, .agg ⟨(a ++ b).map u8c⟩] ρ [] (fun v ρ' L' => v = .int .u64 (stampsF num a b : Nat) ∧ ρ.le ρ' ∧ L' = []) := by
  have hab : ((a ++ b).map u8c).length = 128 := by simp [ha, hb]
  have hone := u8c_one (a ++ b)
  have hld : List.take 128 (List.drop 0 ((a ++ b).map u8c)) = (a ++ b).map u8c := by rw [List.drop_zero, List.take_of_length_le (by omega)]
  refine spec_enter Try.func133 rfl rfl rfl fun u R => ?_
  simp only [argsE, List.cons_append, List.nil_append]
  repeat' (first | (refine i_op ?_; first | (refine i_qq ?_; refine qQ ?_) | refine qEf ?_ | refine qAn ?_ | refine qXo ?_ | refine qNt ?_) | refine tl_nil ?_ | (refine i_tc ?_; refine qTc ?_) | (refine i_te ?_; refine qTe ?_) | intro _)
  refine tc_loop_g [(0, _), (4, _), (8, _)] (fun (ζ : (Nat) × (Hp) × (Nat)) => [(9, .int .i64 ζ.1), (5, .int .u64 ζ.2.2)]) (fun (ζ : (Nat) × (Hp) × (Nat)) => ζ.2.1) (fun (ζ : (Nat) × (Hp) × (Nat)) => []) (fun (ζ : (Nat) × (Hp) × (Nat)) => ζ.1 ≤ 2 ∧ ρ.le ζ.2.1 ∧ ζ.2.2 = stampsTo num a b ζ.1) (fun (ζ : (Nat) × (Hp) × (Nat)) => 2 - ζ.1) ((0, ρ, 0)) (⟨Nat.zero_le _, Hp.le_refl _, rfl⟩) ev_le ev_le rfl tk ?_
  rintro ⟨i, ρ5, y⟩ hI
  try simp only [List.cons_append, List.nil_append, List.append_assoc, List.append_eq] at hI ⊢
  try dsimp only at hI ⊢
  obtain ⟨hi, hl5, hy⟩ := hI
  by_cases hlt : i < 2
  · obtain ⟨blk, hbl, hix, hnx⟩ : ∃ blk : Blk, blk.length = 64 ∧ (((a ++ b).map u8c).drop (i * 64)).take 64 = blk.map u8c ∧ max (stampsTo num a b i) (stampR num i blk) = stampsTo num a b (i + 1) := by
      rcases (show i = 0 ∨ i = 1 by omega) with rfl | rfl
      · refine ⟨a, ha, ?_, by simp [stampsTo]⟩
        rw [List.map_append, Nat.zero_mul, List.drop_zero, List.take_left' (by simpa using ha)]
      · refine ⟨b, hb, ?_, by simp [stampsTo, stampsF]⟩
        rw [List.map_append, Nat.one_mul, List.drop_left' (by simpa using ha), List.take_of_length_le (by simp; omega)]
    have hb64 : (blk.map u8c).length = 64 := by simpa using hbl
    have hbo := u8c_one blk
    repeat' (first | (refine tl_y (y_index_a rfl rfl hlt hix) rfl rfl ?_) | (refine i_op ?_; first | (refine i_qq ?_; refine qQ ?_) | refine qEf ?_ | refine qAn ?_ | refine qXo ?_ | refine qNt ?_) | refine tl_nil ?_ | (refine i_tc ?_; refine qTc ?_) | (refine i_te ?_; refine qTe ?_) | intro _)
    rename_i b2 b7
    refine tc_freeze [(b7, .cells ⟨blk.map u8c⟩ 66 (0, 0))] (h := by infer_instance) (fun ρ6 hl6 hfz => ?_)
    have hbs := hfz _ (List.mem_singleton.2 rfl)
    dsimp only at hbs
    have hs60 := sIn_part hbs 60 4 (by omega)
    have hsA := sIn_part hbs 0 60 (by omega)
    have hs16 := sIn_part hbs 2 16 (by omega)
    rw [List.drop_zero] at hsA
    have hx60 : unbe (((blk.drop 60).take 4).take 4) = unbe (blk.drop 60) := by rw [List.take_take, List.take_of_length_le (by simp; omega)]
    have hc0 : (blk.map u8c)[0 + Int.toNat 0 * 1]? = some (u8c (blk.getD 0 0)) := by
      rw [show 0 + Int.toNat 0 * 1 = 0 from rfl, List.getElem?_map, List.getD_eq_getElem?_getD, List.getElem?_eq_getElem (by omega)]; rfl
    have hc1 : (blk.map u8c)[0 + Int.toNat 1 * 1]? = some (u8c (blk.getD 1 0)) := by
      rw [show 0 + Int.toNat 1 * 1 = 1 from rfl, List.getElem?_map, List.getD_eq_getElem?_getD, List.getElem?_eq_getElem (by omega)]; rfl
    have hx8 : unbe (((blk.drop 2).take 16).take 8) = stampOf blk := by rw [List.take_take]; rfl
    have hl0 := (blk.getD 0 0).toNat_lt
    have hl1 := (blk.getD 1 0).toNat_lt
    have hyl : y < 18446744073709551616 := by
      have h1 := stampOf_lt a; have h2 := stampOf_lt b
      subst hy; unfold stampsTo stampsF stampR; repeat' split
      all_goals omega
    by_cases h0 : (blk.getD 0 0).toNat = num
    · by_cases h1 : (blk.getD 1 0).toNat = i
      · by_cases h2 : unbe (blk.drop 60) = sumB (blk.take 60)
        · have h2' : ((unbe (blk.drop 60) : Nat) : Int) = ((sumB (blk.take 60) : Nat) : Int) := by rw [h2]
          have hR : stampR num i blk = stampOf blk := if_pos ⟨h0, h1, h2⟩
          rw [hR, ← hy] at hnx
          refine tc_any (Stays _ _ ([])) (stays_of (hT := tk) (Hp.le_refl _)) ?_
          all_goals refine rIa 0 ?_
          all_goals refine rLd 1 ?_
          all_goals refine rCv 2 ?_
          all_goals refine rMv 3 ?_
          all_goals refine rCm 4 ?_
          all_goals refine rMv 5 ?_
          all_goals (first | refine wSkip 6 ?_ | refine wSkipU 6 ?_ | refine wIa 6 ?_ | (refine tr_guard (t := 18) rfl (fun hb => ?_) (fun hb => ?_) <;> (try simp only [decide_eq_true_eq, decide_eq_false_iff_not, Bool.not_eq_true, Bool.not_eq_false, beq_iff_eq, bne_iff_ne, ne_eq, Bool.not_eq_eq_eq_not, Bool.not_true, Bool.not_false, beq_eq_false_iff_ne, bne_eq_false_iff_eq] at hb) <;> first | refine wSkip 6 ?_ | refine wSkipU 6 ?_ | refine wIa 6 ?_))
          all_goals (first | refine wSkip 7 ?_ | refine wSkipU 7 ?_ | refine wLd 7 ?_ | (refine tr_guard (t := 18) rfl (fun hb => ?_) (fun hb => ?_) <;> (try simp only [decide_eq_true_eq, decide_eq_false_iff_not, Bool.not_eq_true, Bool.not_eq_false, beq_iff_eq, bne_iff_ne, ne_eq, Bool.not_eq_eq_eq_not, Bool.not_true, Bool.not_false, beq_eq_false_iff_ne, bne_eq_false_iff_eq] at hb) <;> first | refine wSkip 7 ?_ | refine wSkipU 7 ?_ | refine wLd 7 ?_))
          all_goals (first | refine wSkip 8 ?_ | refine wSkipU 8 ?_ | refine wCv 8 ?_ | (refine tr_guard (t := 18) rfl (fun hb => ?_) (fun hb => ?_) <;> (try simp only [decide_eq_true_eq, decide_eq_false_iff_not, Bool.not_eq_true, Bool.not_eq_false, beq_iff_eq, bne_iff_ne, ne_eq, Bool.not_eq_eq_eq_not, Bool.not_true, Bool.not_false, beq_eq_false_iff_ne, bne_eq_false_iff_eq] at hb) <;> first | refine wSkip 8 ?_ | refine wSkipU 8 ?_ | refine wCv 8 ?_))
          all_goals (first | refine wSkip 9 ?_ | refine wSkipU 9 ?_ | refine wMv 9 ?_ | (refine tr_guard (t := 18) rfl (fun hb => ?_) (fun hb => ?_) <;> (try simp only [decide_eq_true_eq, decide_eq_false_iff_not, Bool.not_eq_true, Bool.not_eq_false, beq_iff_eq, bne_iff_ne, ne_eq, Bool.not_eq_eq_eq_not, Bool.not_true, Bool.not_false, beq_eq_false_iff_ne, bne_eq_false_iff_eq] at hb) <;> first | refine wSkip 9 ?_ | refine wSkipU 9 ?_ | refine wMv 9 ?_))
          all_goals (first | refine wSkip 10 ?_ | refine wSkipU 10 ?_ | refine wCm 10 ?_ | (refine tr_guard (t := 18) rfl (fun hb => ?_) (fun hb => ?_) <;> (try simp only [decide_eq_true_eq, decide_eq_false_iff_not, Bool.not_eq_true, Bool.not_eq_false, beq_iff_eq, bne_iff_ne, ne_eq, Bool.not_eq_eq_eq_not, Bool.not_true, Bool.not_false, beq_eq_false_iff_ne, bne_eq_false_iff_eq] at hb) <;> first | refine wSkip 10 ?_ | refine wSkipU 10 ?_ | refine wCm 10 ?_))
          all_goals refine rPk 11 ?_
          all_goals refine rMv 12 ?_
          all_goals (first | refine wSkip 13 ?_ | refine wSkipU 13 ?_ | refine wSl 13 ?_ | (refine tr_guard (t := 25) rfl (fun hb => ?_) (fun hb => ?_) <;> (try simp only [decide_eq_true_eq, decide_eq_false_iff_not, Bool.not_eq_true, Bool.not_eq_false, beq_iff_eq, bne_iff_ne, ne_eq, Bool.not_eq_eq_eq_not, Bool.not_true, Bool.not_false, beq_eq_false_iff_ne, bne_eq_false_iff_eq] at hb) <;> first | refine wSkip 13 ?_ | refine wSkipU 13 ?_ | refine wSl 13 ?_))
          all_goals (first | refine wSkip 16 ?_ | refine wSkipU 16 ?_ | refine wSl 16 ?_ | (refine tr_guard (t := 25) rfl (fun hb => ?_) (fun hb => ?_) <;> (try simp only [decide_eq_true_eq, decide_eq_false_iff_not, Bool.not_eq_true, Bool.not_eq_false, beq_iff_eq, bne_iff_ne, ne_eq, Bool.not_eq_eq_eq_not, Bool.not_true, Bool.not_false, beq_eq_false_iff_ne, bne_eq_false_iff_eq] at hb) <;> first | refine wSkip 16 ?_ | refine wSkipU 16 ?_ | refine wSl 16 ?_))
          all_goals (first | refine wSkip 14 ?_ | refine wSkipU 14 ?_ | (refine rStep (i := 14) ?_; ((try refine qWant ?_); (first | (refine tl_is (.func 140) ?_; refine qC rfl rfl (read_spec _ _ 4 _ _ (by first | exact hs60 | exact hs60.mono (by assumption)) (by omega)) ?_; rintro v2 ρ2 L2 hle2 ⟨hl2, br, ra, rc, rfl, hrc, hrs, rfl⟩; simp only [List.cons_append, List.nil_append]) | (refine qEf ?_; try intro _)) <;> ((try simp only [List.cons_append, List.nil_append, List.append_eq]); refine tl_nil ?_; refine rNext ?_))))
          all_goals (first | refine wSkip 15 ?_ | refine wSkipU 15 ?_ | (refine rStep (i := 15) ?_; ((try refine qWant ?_); (first | (refine tl_is (.func 143) ?_; refine qC rfl rfl (u32_ok _ br ra 4 rc _ hrs hrc (by omega)) ?_; rintro v3 ρ3 L3 hle3 ⟨rfl, rfl, ra3, rn3, rc3, rfl⟩; simp only [List.cons_append, List.nil_append, hx60]) | (refine qEf ?_; try intro _)) <;> ((try simp only [List.cons_append, List.nil_append, List.append_eq]); refine tl_nil ?_; refine rNext ?_))))
          all_goals (first | refine wSkip 17 ?_ | refine wSkipU 17 ?_ | (refine rStep (i := 17) ?_; ((try refine qWant ?_); (first | (refine tl_is (.func 106) ?_; refine qC rfl rfl (sum32_spec _ _ 60 _ _ (by first | exact hsA | exact hsA.mono (by assumption)) (by omega)) ?_; rintro v4 ρ4 L4 hle4 ⟨rfl, rfl, rfl⟩; simp only [List.cons_append, List.nil_append]) | (refine qEf ?_; try intro _)) <;> ((try simp only [List.cons_append, List.nil_append, List.append_eq]); refine tl_nil ?_; refine rNext ?_))))
          all_goals refine rFull ?_
          all_goals (first | refine wSkip 18 ?_ | refine wSkipU 18 ?_ | refine wCm 18 ?_ | (refine tr_guard (t := 25) rfl (fun hb => ?_) (fun hb => ?_) <;> (try simp only [decide_eq_true_eq, decide_eq_false_iff_not, Bool.not_eq_true, Bool.not_eq_false, beq_iff_eq, bne_iff_ne, ne_eq, Bool.not_eq_eq_eq_not, Bool.not_true, Bool.not_false, beq_eq_false_iff_ne, bne_eq_false_iff_eq] at hb) <;> first | refine wSkip 18 ?_ | refine wSkipU 18 ?_ | refine wCm 18 ?_))
          all_goals refine rPk 19 ?_
          all_goals refine rDone ?_
          all_goals have hs16' := hs16.mono hl2
          all_goals (repeat' (first | (refine tl_is (.func 140) ?_; refine qC rfl rfl (read_spec _ _ 16 _ _ hs16' (by omega)) ?_; rintro v5 ρ7 L5 hle5 ⟨hl7, br5, ra5, rc5, rfl, hrc5, hrs5, rfl⟩; simp only [List.cons_append, List.nil_append]) | (refine tl_is (.func 141) ?_; refine qC rfl rfl (u64_ok _ br5 ra5 16 rc5 _ hrs5 hrc5 (by omega)) ?_; rintro v6 ρ8 L6 hle6 ⟨rfl, rfl, ra6, rc6, hrs6, hrc6, rfl⟩; simp only [List.cons_append, List.nil_append, hx8]) | (refine i_op ?_; first | (refine i_qq ?_; refine qQ ?_) | refine qEf ?_ | refine qAn ?_ | refine qXo ?_ | refine qNt ?_) | refine tl_nil ?_ | (refine i_tc ?_; refine qTc ?_) | (refine i_te ?_; refine qTe ?_) | intro _))
          all_goals rw [show max ((y : Nat) : Int) ((stampOf blk : Nat) : Int) = ((max y (stampOf blk) : Nat) : Int) by omega]
          all_goals have hfin := Hp.le_trans hl5 (Hp.le_trans hl6 (Hp.le_trans hl2 hl7))
          all_goals refine te_round_g (i + 1, _, max y (stampOf blk)) (⟨hlt, hfin, hnx⟩) ev_le ev_le rfl tk inferInstance (by first | omega | (dsimp only; omega))
        · have h2' : ¬ ((unbe (blk.drop 60) : Nat) : Int) = ((sumB (blk.take 60) : Nat) : Int) := by omega
          refine tc_any (Stays _ _ ([])) (stays_of (hT := tk) (Hp.le_refl _)) ?_
          all_goals refine rIa 0 ?_
          all_goals refine rLd 1 ?_
          all_goals refine rCv 2 ?_
          all_goals refine rMv 3 ?_
          all_goals refine rCm 4 ?_
          all_goals refine rMv 5 ?_
          all_goals (first | refine wSkip 6 ?_ | refine wSkipU 6 ?_ | refine wIa 6 ?_ | (refine tr_guard (t := 18) rfl (fun hb => ?_) (fun hb => ?_) <;> (try simp only [decide_eq_true_eq, decide_eq_false_iff_not, Bool.not_eq_true, Bool.not_eq_false, beq_iff_eq, bne_iff_ne, ne_eq, Bool.not_eq_eq_eq_not, Bool.not_true, Bool.not_false, beq_eq_false_iff_ne, bne_eq_false_iff_eq] at hb) <;> first | refine wSkip 6 ?_ | refine wSkipU 6 ?_ | refine wIa 6 ?_))
          all_goals (first | refine wSkip 7 ?_ | refine wSkipU 7 ?_ | refine wLd 7 ?_ | (refine tr_guard (t := 18) rfl (fun hb => ?_) (fun hb => ?_) <;> (try simp only [decide_eq_true_eq, decide_eq_false_iff_not, Bool.not_eq_true, Bool.not_eq_false, beq_iff_eq, bne_iff_ne, ne_eq, Bool.not_eq_eq_eq_not, Bool.not_true, Bool.not_false, beq_eq_false_iff_ne, bne_eq_false_iff_eq] at hb) <;> first | refine wSkip 7 ?_ | refine wSkipU 7 ?_ | refine wLd 7 ?_))
          all_goals (first | refine wSkip 8 ?_ | refine wSkipU 8 ?_ | refine wCv 8 ?_ | (refine tr_guard (t := 18) rfl (fun hb => ?_) (fun hb => ?_) <;> (try simp only [decide_eq_true_eq, decide_eq_false_iff_not, Bool.not_eq_true, Bool.not_eq_false, beq_iff_eq, bne_iff_ne, ne_eq, Bool.not_eq_eq_eq_not, Bool.not_true, Bool.not_false, beq_eq_false_iff_ne, bne_eq_false_iff_eq] at hb) <;> first | refine wSkip 8 ?_ | refine wSkipU 8 ?_ | refine wCv 8 ?_))
          all_goals (first | refine wSkip 9 ?_ | refine wSkipU 9 ?_ | refine wMv 9 ?_ | (refine tr_guard (t := 18) rfl (fun hb => ?_) (fun hb => ?_) <;> (try simp only [decide_eq_true_eq, decide_eq_false_iff_not, Bool.not_eq_true, Bool.not_eq_false, beq_iff_eq, bne_iff_ne, ne_eq, Bool.not_eq_eq_eq_not, Bool.not_true, Bool.not_false, beq_eq_false_iff_ne, bne_eq_false_iff_eq] at hb) <;> first | refine wSkip 9 ?_ | refine wSkipU 9 ?_ | refine wMv 9 ?_))
          all_goals (first | refine wSkip 10 ?_ | refine wSkipU 10 ?_ | refine wCm 10 ?_ | (refine tr_guard (t := 18) rfl (fun hb => ?_) (fun hb => ?_) <;> (try simp only [decide_eq_true_eq, decide_eq_false_iff_not, Bool.not_eq_true, Bool.not_eq_false, beq_iff_eq, bne_iff_ne, ne_eq, Bool.not_eq_eq_eq_not, Bool.not_true, Bool.not_false, beq_eq_false_iff_ne, bne_eq_false_iff_eq] at hb) <;> first | refine wSkip 10 ?_ | refine wSkipU 10 ?_ | refine wCm 10 ?_))
          all_goals refine rPk 11 ?_
          all_goals refine rMv 12 ?_
          all_goals (first | refine wSkip 13 ?_ | refine wSkipU 13 ?_ | refine wSl 13 ?_ | (refine tr_guard (t := 25) rfl (fun hb => ?_) (fun hb => ?_) <;> (try simp only [decide_eq_true_eq, decide_eq_false_iff_not, Bool.not_eq_true, Bool.not_eq_false, beq_iff_eq, bne_iff_ne, ne_eq, Bool.not_eq_eq_eq_not, Bool.not_true, Bool.not_false, beq_eq_false_iff_ne, bne_eq_false_iff_eq] at hb) <;> first | refine wSkip 13 ?_ | refine wSkipU 13 ?_ | refine wSl 13 ?_))
          all_goals (first | refine wSkip 16 ?_ | refine wSkipU 16 ?_ | refine wSl 16 ?_ | (refine tr_guard (t := 25) rfl (fun hb => ?_) (fun hb => ?_) <;> (try simp only [decide_eq_true_eq, decide_eq_false_iff_not, Bool.not_eq_true, Bool.not_eq_false, beq_iff_eq, bne_iff_ne, ne_eq, Bool.not_eq_eq_eq_not, Bool.not_true, Bool.not_false, beq_eq_false_iff_ne, bne_eq_false_iff_eq] at hb) <;> first | refine wSkip 16 ?_ | refine wSkipU 16 ?_ | refine wSl 16 ?_))
          all_goals (first | refine wSkip 14 ?_ | refine wSkipU 14 ?_ | (refine rStep (i := 14) ?_; ((try refine qWant ?_); (first | (refine tl_is (.func 140) ?_; refine qC rfl rfl (read_spec _ _ 4 _ _ (by first | exact hs60 | exact hs60.mono (by assumption)) (by omega)) ?_; rintro v2 ρ2 L2 hle2 ⟨hl2, br, ra, rc, rfl, hrc, hrs, rfl⟩; simp only [List.cons_append, List.nil_append]) | (refine qEf ?_; try intro _)) <;> ((try simp only [List.cons_append, List.nil_append, List.append_eq]); refine tl_nil ?_; refine rNext ?_))))
          all_goals (first | refine wSkip 15 ?_ | refine wSkipU 15 ?_ | (refine rStep (i := 15) ?_; ((try refine qWant ?_); (first | (refine tl_is (.func 143) ?_; refine qC rfl rfl (u32_ok _ br ra 4 rc _ hrs hrc (by omega)) ?_; rintro v3 ρ3 L3 hle3 ⟨rfl, rfl, ra3, rn3, rc3, rfl⟩; simp only [List.cons_append, List.nil_append, hx60]) | (refine qEf ?_; try intro _)) <;> ((try simp only [List.cons_append, List.nil_append, List.append_eq]); refine tl_nil ?_; refine rNext ?_))))
          all_goals (first | refine wSkip 17 ?_ | refine wSkipU 17 ?_ | (refine rStep (i := 17) ?_; ((try refine qWant ?_); (first | (refine tl_is (.func 106) ?_; refine qC rfl rfl (sum32_spec _ _ 60 _ _ (by first | exact hsA | exact hsA.mono (by assumption)) (by omega)) ?_; rintro v4 ρ4 L4 hle4 ⟨rfl, rfl, rfl⟩; simp only [List.cons_append, List.nil_append]) | (refine qEf ?_; try intro _)) <;> ((try simp only [List.cons_append, List.nil_append, List.append_eq]); refine tl_nil ?_; refine rNext ?_))))
          all_goals refine rFull ?_
          all_goals (first | refine wSkip 18 ?_ | refine wSkipU 18 ?_ | refine wCm 18 ?_ | (refine tr_guard (t := 25) rfl (fun hb => ?_) (fun hb => ?_) <;> (try simp only [decide_eq_true_eq, decide_eq_false_iff_not, Bool.not_eq_true, Bool.not_eq_false, beq_iff_eq, bne_iff_ne, ne_eq, Bool.not_eq_eq_eq_not, Bool.not_true, Bool.not_false, beq_eq_false_iff_ne, bne_eq_false_iff_eq] at hb) <;> first | refine wSkip 18 ?_ | refine wSkipU 18 ?_ | refine wCm 18 ?_))
          all_goals refine rPk 19 ?_
          all_goals refine rDone ?_
          all_goals (repeat' (first | (refine i_op ?_; first | (refine i_qq ?_; refine qQ ?_) | refine qEf ?_ | refine qAn ?_ | refine qXo ?_ | refine qNt ?_) | refine tl_nil ?_ | (refine i_tc ?_; refine qTc ?_) | (refine i_te ?_; refine qTe ?_) | intro _))
          all_goals have hR0 : stampR num i blk = 0 := if_neg (fun hh => h2 hh.2.2)
          all_goals rw [hR0, Nat.max_zero, ← hy] at hnx
          all_goals have hfin := Hp.le_trans hl5 (Hp.le_trans hl6 hl2)
          all_goals refine te_round_g (i + 1, _, y) (⟨hlt, hfin, hnx⟩) ev_le ev_le rfl tk inferInstance (by first | omega | (dsimp only; omega))
      · skip
        refine tc_any (Stays _ _ ([])) (stays_of (hT := tk) (Hp.le_refl _)) ?_
        all_goals refine rIa 0 ?_
        all_goals refine rLd 1 ?_
        all_goals refine rCv 2 ?_
        all_goals refine rMv 3 ?_
        all_goals refine rCm 4 ?_
        all_goals refine rMv 5 ?_
        all_goals (first | refine wSkip 6 ?_ | refine wSkipU 6 ?_ | refine wIa 6 ?_ | (refine tr_guard (t := 18) rfl (fun hb => ?_) (fun hb => ?_) <;> (try simp only [decide_eq_true_eq, decide_eq_false_iff_not, Bool.not_eq_true, Bool.not_eq_false, beq_iff_eq, bne_iff_ne, ne_eq, Bool.not_eq_eq_eq_not, Bool.not_true, Bool.not_false, beq_eq_false_iff_ne, bne_eq_false_iff_eq] at hb) <;> first | refine wSkip 6 ?_ | refine wSkipU 6 ?_ | refine wIa 6 ?_))
        all_goals (first | refine wSkip 7 ?_ | refine wSkipU 7 ?_ | refine wLd 7 ?_ | (refine tr_guard (t := 18) rfl (fun hb => ?_) (fun hb => ?_) <;> (try simp only [decide_eq_true_eq, decide_eq_false_iff_not, Bool.not_eq_true, Bool.not_eq_false, beq_iff_eq, bne_iff_ne, ne_eq, Bool.not_eq_eq_eq_not, Bool.not_true, Bool.not_false, beq_eq_false_iff_ne, bne_eq_false_iff_eq] at hb) <;> first | refine wSkip 7 ?_ | refine wSkipU 7 ?_ | refine wLd 7 ?_))
        all_goals (first | refine wSkip 8 ?_ | refine wSkipU 8 ?_ | refine wCv 8 ?_ | (refine tr_guard (t := 18) rfl (fun hb => ?_) (fun hb => ?_) <;> (try simp only [decide_eq_true_eq, decide_eq_false_iff_not, Bool.not_eq_true, Bool.not_eq_false, beq_iff_eq, bne_iff_ne, ne_eq, Bool.not_eq_eq_eq_not, Bool.not_true, Bool.not_false, beq_eq_false_iff_ne, bne_eq_false_iff_eq] at hb) <;> first | refine wSkip 8 ?_ | refine wSkipU 8 ?_ | refine wCv 8 ?_))
        all_goals (first | refine wSkip 9 ?_ | refine wSkipU 9 ?_ | refine wMv 9 ?_ | (refine tr_guard (t := 18) rfl (fun hb => ?_) (fun hb => ?_) <;> (try simp only [decide_eq_true_eq, decide_eq_false_iff_not, Bool.not_eq_true, Bool.not_eq_false, beq_iff_eq, bne_iff_ne, ne_eq, Bool.not_eq_eq_eq_not, Bool.not_true, Bool.not_false, beq_eq_false_iff_ne, bne_eq_false_iff_eq] at hb) <;> first | refine wSkip 9 ?_ | refine wSkipU 9 ?_ | refine wMv 9 ?_))
        all_goals (first | refine wSkip 10 ?_ | refine wSkipU 10 ?_ | refine wCm 10 ?_ | (refine tr_guard (t := 18) rfl (fun hb => ?_) (fun hb => ?_) <;> (try simp only [decide_eq_true_eq, decide_eq_false_iff_not, Bool.not_eq_true, Bool.not_eq_false, beq_iff_eq, bne_iff_ne, ne_eq, Bool.not_eq_eq_eq_not, Bool.not_true, Bool.not_false, beq_eq_false_iff_ne, bne_eq_false_iff_eq] at hb) <;> first | refine wSkip 10 ?_ | refine wSkipU 10 ?_ | refine wCm 10 ?_))
        all_goals refine rPk 11 ?_
        all_goals refine rMv 12 ?_
        all_goals (first | refine wSkip 13 ?_ | refine wSkipU 13 ?_ | refine wSl 13 ?_ | (refine tr_guard (t := 25) rfl (fun hb => ?_) (fun hb => ?_) <;> (try simp only [decide_eq_true_eq, decide_eq_false_iff_not, Bool.not_eq_true, Bool.not_eq_false, beq_iff_eq, bne_iff_ne, ne_eq, Bool.not_eq_eq_eq_not, Bool.not_true, Bool.not_false, beq_eq_false_iff_ne, bne_eq_false_iff_eq] at hb) <;> first | refine wSkip 13 ?_ | refine wSkipU 13 ?_ | refine wSl 13 ?_))
        all_goals (first | refine wSkip 16 ?_ | refine wSkipU 16 ?_ | refine wSl 16 ?_ | (refine tr_guard (t := 25) rfl (fun hb => ?_) (fun hb => ?_) <;> (try simp only [decide_eq_true_eq, decide_eq_false_iff_not, Bool.not_eq_true, Bool.not_eq_false, beq_iff_eq, bne_iff_ne, ne_eq, Bool.not_eq_eq_eq_not, Bool.not_true, Bool.not_false, beq_eq_false_iff_ne, bne_eq_false_iff_eq] at hb) <;> first | refine wSkip 16 ?_ | refine wSkipU 16 ?_ | refine wSl 16 ?_))
        all_goals (first | refine wSkip 14 ?_ | refine wSkipU 14 ?_ | (refine rStep (i := 14) ?_; ((try refine qWant ?_); (first | (refine qEf ?_; try intro _)) <;> ((try simp only [List.cons_append, List.nil_append, List.append_eq]); refine tl_nil ?_; refine rNext ?_))))
        all_goals (first | refine wSkip 15 ?_ | refine wSkipU 15 ?_ | (refine rStep (i := 15) ?_; ((try refine qWant ?_); (first | (refine qEf ?_; try intro _)) <;> ((try simp only [List.cons_append, List.nil_append, List.append_eq]); refine tl_nil ?_; refine rNext ?_))))
        all_goals (first | refine wSkip 17 ?_ | refine wSkipU 17 ?_ | (refine rStep (i := 17) ?_; ((try refine qWant ?_); (first | (refine qEf ?_; try intro _)) <;> ((try simp only [List.cons_append, List.nil_append, List.append_eq]); refine tl_nil ?_; refine rNext ?_))))
        all_goals refine rFull ?_
        all_goals (first | refine wSkip 18 ?_ | refine wSkipU 18 ?_ | refine wCm 18 ?_ | (refine tr_guard (t := 25) rfl (fun hb => ?_) (fun hb => ?_) <;> (try simp only [decide_eq_true_eq, decide_eq_false_iff_not, Bool.not_eq_true, Bool.not_eq_false, beq_iff_eq, bne_iff_ne, ne_eq, Bool.not_eq_eq_eq_not, Bool.not_true, Bool.not_false, beq_eq_false_iff_ne, bne_eq_false_iff_eq] at hb) <;> first | refine wSkip 18 ?_ | refine wSkipU 18 ?_ | refine wCm 18 ?_))
        all_goals refine rPk 19 ?_
        all_goals refine rDone ?_
        all_goals (repeat' (first | (refine i_op ?_; first | (refine i_qq ?_; refine qQ ?_) | refine qEf ?_ | refine qAn ?_ | refine qXo ?_ | refine qNt ?_) | refine tl_nil ?_ | (refine i_tc ?_; refine qTc ?_) | (refine i_te ?_; refine qTe ?_) | intro _))
        all_goals have hR0 : stampR num i blk = 0 := if_neg (fun hh => h1 hh.2.1)
        all_goals rw [hR0, Nat.max_zero, ← hy] at hnx
        all_goals refine te_round_g (i + 1, ρ6, y) (⟨hlt, Hp.le_trans hl5 hl6, hnx⟩) ev_le ev_le rfl tk inferInstance (by first | omega | (dsimp only; omega))
    · skip
      refine tc_any (Stays _ _ ([])) (stays_of (hT := tk) (Hp.le_refl _)) ?_
      all_goals refine rIa 0 ?_
      all_goals refine rLd 1 ?_
      all_goals refine rCv 2 ?_
      all_goals refine rMv 3 ?_
      all_goals refine rCm 4 ?_
      all_goals refine rMv 5 ?_
      all_goals (first | refine wSkip 6 ?_ | refine wSkipU 6 ?_ | refine wIa 6 ?_ | (refine tr_guard (t := 18) rfl (fun hb => ?_) (fun hb => ?_) <;> (try simp only [decide_eq_true_eq, decide_eq_false_iff_not, Bool.not_eq_true, Bool.not_eq_false, beq_iff_eq, bne_iff_ne, ne_eq, Bool.not_eq_eq_eq_not, Bool.not_true, Bool.not_false, beq_eq_false_iff_ne, bne_eq_false_iff_eq] at hb) <;> first | refine wSkip 6 ?_ | refine wSkipU 6 ?_ | refine wIa 6 ?_))
      all_goals (first | refine wSkip 7 ?_ | refine wSkipU 7 ?_ | refine wLd 7 ?_ | (refine tr_guard (t := 18) rfl (fun hb => ?_) (fun hb => ?_) <;> (try simp only [decide_eq_true_eq, decide_eq_false_iff_not, Bool.not_eq_true, Bool.not_eq_false, beq_iff_eq, bne_iff_ne, ne_eq, Bool.not_eq_eq_eq_not, Bool.not_true, Bool.not_false, beq_eq_false_iff_ne, bne_eq_false_iff_eq] at hb) <;> first | refine wSkip 7 ?_ | refine wSkipU 7 ?_ | refine wLd 7 ?_))
      all_goals (first | refine wSkip 8 ?_ | refine wSkipU 8 ?_ | refine wCv 8 ?_ | (refine tr_guard (t := 18) rfl (fun hb => ?_) (fun hb => ?_) <;> (try simp only [decide_eq_true_eq, decide_eq_false_iff_not, Bool.not_eq_true, Bool.not_eq_false, beq_iff_eq, bne_iff_ne, ne_eq, Bool.not_eq_eq_eq_not, Bool.not_true, Bool.not_false, beq_eq_false_iff_ne, bne_eq_false_iff_eq] at hb) <;> first | refine wSkip 8 ?_ | refine wSkipU 8 ?_ | refine wCv 8 ?_))
      all_goals (first | refine wSkip 9 ?_ | refine wSkipU 9 ?_ | refine wMv 9 ?_ | (refine tr_guard (t := 18) rfl (fun hb => ?_) (fun hb => ?_) <;> (try simp only [decide_eq_true_eq, decide_eq_false_iff_not, Bool.not_eq_true, Bool.not_eq_false, beq_iff_eq, bne_iff_ne, ne_eq, Bool.not_eq_eq_eq_not, Bool.not_true, Bool.not_false, beq_eq_false_iff_ne, bne_eq_false_iff_eq] at hb) <;> first | refine wSkip 9 ?_ | refine wSkipU 9 ?_ | refine wMv 9 ?_))
      all_goals (first | refine wSkip 10 ?_ | refine wSkipU 10 ?_ | refine wCm 10 ?_ | (refine tr_guard (t := 18) rfl (fun hb => ?_) (fun hb => ?_) <;> (try simp only [decide_eq_true_eq, decide_eq_false_iff_not, Bool.not_eq_true, Bool.not_eq_false, beq_iff_eq, bne_iff_ne, ne_eq, Bool.not_eq_eq_eq_not, Bool.not_true, Bool.not_false, beq_eq_false_iff_ne, bne_eq_false_iff_eq] at hb) <;> first | refine wSkip 10 ?_ | refine wSkipU 10 ?_ | refine wCm 10 ?_))
      all_goals refine rPk 11 ?_
      all_goals refine rMv 12 ?_
      all_goals (first | refine wSkip 13 ?_ | refine wSkipU 13 ?_ | refine wSl 13 ?_ | (refine tr_guard (t := 25) rfl (fun hb => ?_) (fun hb => ?_) <;> (try simp only [decide_eq_true_eq, decide_eq_false_iff_not, Bool.not_eq_true, Bool.not_eq_false, beq_iff_eq, bne_iff_ne, ne_eq, Bool.not_eq_eq_eq_not, Bool.not_true, Bool.not_false, beq_eq_false_iff_ne, bne_eq_false_iff_eq] at hb) <;> first | refine wSkip 13 ?_ | refine wSkipU 13 ?_ | refine wSl 13 ?_))
      all_goals (first | refine wSkip 16 ?_ | refine wSkipU 16 ?_ | refine wSl 16 ?_ | (refine tr_guard (t := 25) rfl (fun hb => ?_) (fun hb => ?_) <;> (try simp only [decide_eq_true_eq, decide_eq_false_iff_not, Bool.not_eq_true, Bool.not_eq_false, beq_iff_eq, bne_iff_ne, ne_eq, Bool.not_eq_eq_eq_not, Bool.not_true, Bool.not_false, beq_eq_false_iff_ne, bne_eq_false_iff_eq] at hb) <;> first | refine wSkip 16 ?_ | refine wSkipU 16 ?_ | refine wSl 16 ?_))
      all_goals (first | refine wSkip 14 ?_ | refine wSkipU 14 ?_ | (refine rStep (i := 14) ?_; ((try refine qWant ?_); (first | (refine qEf ?_; try intro _)) <;> ((try simp only [List.cons_append, List.nil_append, List.append_eq]); refine tl_nil ?_; refine rNext ?_))))
      all_goals (first | refine wSkip 15 ?_ | refine wSkipU 15 ?_ | (refine rStep (i := 15) ?_; ((try refine qWant ?_); (first | (refine qEf ?_; try intro _)) <;> ((try simp only [List.cons_append, List.nil_append, List.append_eq]); refine tl_nil ?_; refine rNext ?_))))
      all_goals (first | refine wSkip 17 ?_ | refine wSkipU 17 ?_ | (refine rStep (i := 17) ?_; ((try refine qWant ?_); (first | (refine qEf ?_; try intro _)) <;> ((try simp only [List.cons_append, List.nil_append, List.append_eq]); refine tl_nil ?_; refine rNext ?_))))
      all_goals refine rFull ?_
      all_goals (first | refine wSkip 18 ?_ | refine wSkipU 18 ?_ | refine wCm 18 ?_ | (refine tr_guard (t := 25) rfl (fun hb => ?_) (fun hb => ?_) <;> (try simp only [decide_eq_true_eq, decide_eq_false_iff_not, Bool.not_eq_true, Bool.not_eq_false, beq_iff_eq, bne_iff_ne, ne_eq, Bool.not_eq_eq_eq_not, Bool.not_true, Bool.not_false, beq_eq_false_iff_ne, bne_eq_false_iff_eq] at hb) <;> first | refine wSkip 18 ?_ | refine wSkipU 18 ?_ | refine wCm 18 ?_))
      all_goals refine rPk 19 ?_
      all_goals refine rDone ?_
      all_goals (repeat' (first | (refine i_op ?_; first | (refine i_qq ?_; refine qQ ?_) | refine qEf ?_ | refine qAn ?_ | refine qXo ?_ | refine qNt ?_) | refine tl_nil ?_ | (refine i_tc ?_; refine qTc ?_) | (refine i_te ?_; refine qTe ?_) | intro _))
      all_goals have hR0 : stampR num i blk = 0 := if_neg (fun hh => h0 hh.1)
      all_goals rw [hR0, Nat.max_zero, ← hy] at hnx
      all_goals refine te_round_g (i + 1, ρ6, y) (⟨hlt, Hp.le_trans hl5 hl6, hnx⟩) ev_le ev_le rfl tk inferInstance (by first | omega | (dsimp only; omega))
  · have h2 : i = 2 := by omega
    subst h2
    repeat' (first | (refine i_op ?_; first | (refine i_qq ?_; refine qQ ?_) | refine qEf ?_ | refine qAn ?_ | refine qXo ?_ | refine qNt ?_) | refine tl_nil ?_ | (refine i_tc ?_; refine qTc ?_) | (refine i_te ?_; refine qTe ?_) | intro _)
    subst hy
    exact qE (L' := []) ⟨rfl, hl5, rfl⟩
end Go.Proofs.E

namespace Go.Proofs.E
open Go
set_option linter.unusedVariables false
set_option linter.unusedSimpArgs false
/-! ## a range over a function whose own memory turns as it goes -/
def IterS (P : Program) (g : FuncId) (fs cs : List Value) {α : Type} (enc : Hp → α → List Value → Prop) (ρ0 : Hp) (S : List α → SH) (xs : List α) : Prop :=
  ∀ (l : Nat) (J : List α → Hp → SH → Prop) (Jx : List α → Hp → SH → Prop), (∀ pre ρ ρ' Lj, ρ.le ρ' → J pre ρ Lj → J pre ρ' Lj) →
    (∀ pre y vs ρ Lj, (pre ++ [y]) <+: xs → ρ0.le ρ → enc ρ y vs → J pre ρ Lj → YSpec P l vs ρ (S (pre ++ [y]) ++ Lj) (YP (S (pre ++ [y])) (J (pre ++ [y])) (Jx (pre ++ [y])))) →
    ∀ ρ Lj, ρ0.le ρ → J [] ρ Lj → Spec P g (fs ++ [.func (.yield l) ⟨[]⟩ ⟨[]⟩] ++ cs) ρ (S [] ++ Lj) (fun v ρ' L' => ∃ Lj', (L' = S xs ++ Lj' ∧ J xs ρ' Lj') ∨ ∃ pre, L' = S pre ++ Lj' ∧ Jx pre ρ' Lj')
section
variable {x : Cx} {Q : Exit → Act → World → Prop} {E : Env} {ρ ρ0 : Hp} {L : SH} {l : Nat} {r : Loop}
theorem tc_rangeFuncS {fo : Operand} {ps : List Nat} {assign body : Code} {g : Nat} {fs cs : List Value} {α : Type} {enc : Hp → α → List Value → Prop} {S : List α → SH} {L0 R0 R : SH} {xs : List α} (hro : x.ro = none)
    (hf : ev E fo = some (.func (.func g) ⟨fs⟩ ⟨cs⟩)) [hF : Fun x.P g] (hI : IterS x.P g fs cs enc ρ0 S xs) (hle : ρ0.le ρ) (hps : ∀ ρ y vs, enc ρ y vs → vs.length = ps.length) (hpN : ps.all (fun p => Nat.blt p x.N) = true)
    (J : List α → Hp → SH → Prop) (Jx : List α → Code → Hp → SH → Prop) (k1 : Take L (S []) R0) (k2 : Take R0 L0 R) (hM : ∀ pre ρ ρ' Lj, ρ.le ρ' → J pre ρ Lj → J pre ρ' Lj) (h0 : J [] ρ L0)
    (hround : ∀ l tm r pre y vs ρ' Lu u R', (pre ++ [y]) <+: xs → ρ0.le ρ' → enc ρ' y vs → J pre ρ' Lu → r.state = .ready → Rec tm ⟨ps⟩ assign body r →
      TC ⟨some l, x.P, u, [], x.N⟩ assign (Exit.then (KB x.P l body (RQ x.P u ρ' R' l (YP (S (pre ++ [y])) (JH l (Rec tm ⟨ps⟩ assign body) (J (pre ++ [y]))) (XH l (Rec tm ⟨ps⟩ assign body) (Jx (pre ++ [y])))))) QF)
        (envP ps vs E) ρ' ([(l, .loop r)] :: (S (pre ++ [y]) ++ (Lu ++ R'))))
    (hdone : ∀ D0 ρ' Lu, ρ.le ρ' → J xs ρ' Lu → TE { x with D := [{ target := .collected D0, args := #[] }] ++ x.D } .normal Q E ρ' ([(D0, .deferred (some []))] :: (S xs ++ (Lu ++ R))))
    (hstop : ∀ D0 pre c ρ' Lu, ρ.le ρ' → Jx pre c ρ' Lu → TC { x with D := [{ target := .collected D0, args := #[] }] ++ x.D } c Q E ρ' ([(D0, .deferred (some []))] :: (S pre ++ (Lu ++ R)))) :
    TC x (.rangeFunc fo ⟨ps⟩ assign body) Q E ρ L := fun a w ha hw => by
  obtain ⟨ro, P, u, D, N⟩ := x
  simp only at hro; subst hro
  dsimp only at *
  refine wpIn_rangeFunc fun fn _ => ?_
  have hw0 : Sat u ρ (S [] ++ (L0 ++ R)) w := hw.perm (by
    refine k1.out.trans ?_
    simp only [List.flatten_append]
    exact List.Perm.append_left _ (by simpa using k2.out))
  have hw1 := hw0.new (.deferred (some []))
  generalize hr0 : ({ state := .ready, pending := none, fn, tmps := a.tmps, params := ⟨ps⟩, assign, body, defers := w.heap.size } : Loop) = r0
  have hw2 := hw1.new (.loop r0)
  have hsz : ({ w with heap := w.heap.push (.deferred (some [])) } : World).heap.size = w.heap.size + 1 := by simp
  rw [hsz] at hw2
  have hrec0 : Rec a.tmps ⟨ps⟩ assign body r0 := by subst hr0; exact ⟨rfl, rfl, rfl, rfl⟩
  have hst0 : r0.state = .ready ∧ r0.pending = none := by subst hr0; exact ⟨rfl, rfl⟩
  have henter := run_enterLoop_outer (P := P) (w := w) fn a.tmps ⟨ps⟩ assign body
  rw [hr0] at henter
  have hres : (resolve a.eval (rangeCall fo (w.heap.size + 1)) 0).run P ((w.alloc (.deferred (some []))).alloc (.loop r0)) =
      .ok { target := .fn (.func g) ⟨cs⟩, args := ⟨fs ++ [.func (.yield (w.heap.size + 1)) ⟨[]⟩ ⟨[]⟩]⟩ } ((w.alloc (.deferred (some []))).alloc (.loop r0)) := by
    simp only [resolve, ha.eval hf, Deferred.ofValue, Sem.run_pure]
    simp [Act.eval]
  refine ⟨w.heap.size + 1, _, _, _, _, g, ⟨fs ++ [.func (.yield (w.heap.size + 1)) ⟨[]⟩ ⟨[]⟩] ++ cs⟩, (w.alloc (.deferred (some []))).alloc (.loop r0), henter, hres, fun _ _ => trivial, ?_, fun h => by simp [Fw, Fence.wide] at h, ?_⟩
  · simp only [invoke]
    have := run_callFunc hF (⟨fs ++ [.func (.yield (w.heap.size + 1)) ⟨[]⟩ ⟨[]⟩]⟩ ++ ⟨cs⟩) ((w.alloc (.deferred (some []))).alloc (.loop r0))
    simpa using this
  generalize hl : w.heap.size + 1 = l at *
  generalize hD0 : w.heap.size = D0 at *
  have hy : ∀ pre y vs ρ' Lj, (pre ++ [y]) <+: xs → ρ0.le ρ' → enc ρ' y vs → JH l (Rec a.tmps ⟨ps⟩ assign body) (J pre) ρ' Lj → YSpec P l vs ρ' (S (pre ++ [y]) ++ Lj) (YP (S (pre ++ [y])) (JH l (Rec a.tmps ⟨ps⟩ assign body) (J (pre ++ [y]))) (XH l (Rec a.tmps ⟨ps⟩ assign body) (Jx (pre ++ [y])))) := by
    intro pre y vs ρ' Lj hpre hle' hen hJ
    obtain ⟨r, Lu, rfl, hrs, hrp, hrr, hJu⟩ := hJ
    intro u' R' w' hw'
    have hlr := hw'.here (l, .loop r) (by simp)
    have hargs : (⟨vs⟩ : Array Value).size = r.params.size := by rw [hrr.params]; simpa using hps _ _ _ hen
    refine ⟨_, _, _, _, run_yield hlr hargs, ?_⟩
    have hround' := hround l a.tmps r pre y vs ρ' Lu u' R' hpre hle' hen hJu hrs hrr
    have hsat : Sat u' ρ' ([(l, .loop r)] :: (S (pre ++ [y]) ++ (Lu ++ R'))) w' := hw'.perm (by simp)
    have hok : Ok [] N (envP ps vs E) { tmps := (r.params.zip ⟨vs⟩).foldl (fun tmps (t, a) => tmps.setIfInBounds t a) r.tmps, defers := [] } := by
      have h1 : Ok [] N E { tmps := a.tmps, defers := [] } := ⟨rfl, ha.size, ha.get⟩
      have := Ok.putP ps vs E a.tmps hpN h1
      rw [hrr.params, hrr.tmps]
      have e : ((⟨ps⟩ : Array Nat).zip ⟨vs⟩) = ⟨ps.zip vs⟩ := by simp
      rw [e]
      simpa using this
    have hwp := hround' _ w' hok hsat
    rw [hrr.assign, hrr.body]
    refine roundIn_of_wpIn (F := Fw none) (n := 0) trivial ?_
    exact hwp
  have hspec := hI l (fun pre => JH l (Rec a.tmps ⟨ps⟩ assign body) (J pre)) (fun pre => XH l (Rec a.tmps ⟨ps⟩ assign body) (Jx pre)) (fun pre ρ1 ρ2 Lj h12 ⟨r, Lu, e1, e2, e3, e4, e5⟩ => ⟨r, Lu, e1, e2, e3, e4, hM _ _ _ _ h12 e5⟩) hy ρ ([(l, .loop r0)] :: L0) hle ⟨r0, L0, rfl, hst0.1, hst0.2, hrec0, h0⟩
  have hcall := hspec u ([(D0, .deferred (some []))] :: R) ((w.alloc (.deferred (some []))).alloc (.loop r0)) (hw2.perm (by
    simp only [List.flatten_cons, List.flatten_append, List.append_assoc, List.cons_append, List.singleton_append, List.nil_append]
    refine List.Perm.trans (l₂ := (S []).flatten ++ ((l, .loop r0) :: (D0, .deferred (some [])) :: (L0.flatten ++ R.flatten))) ?_ ?_
    · refine List.Perm.trans ?_ List.perm_middle.symm
      refine List.Perm.cons _ ?_
      exact List.perm_middle.symm
    · refine List.Perm.append_left _ (List.Perm.cons _ ?_)
      exact List.perm_middle.symm))
  refine calls_ro (CallsIn.mono hcall ?_)
  rintro e w3 ⟨v, ρ', L', rfl, hle', hsat, Lj', hor⟩
  have perm4 : ∀ (S : SH) (c : List (Nat × Obj)) (Lu : SH), (S ++ (c :: Lu) ++ ([(D0, .deferred (some []))] :: R)).flatten.Perm (c :: ([(D0, .deferred (some []))] :: (S ++ (Lu ++ R)))).flatten := fun S c Lu => by
    simp only [List.flatten_cons, List.flatten_append, List.append_assoc, List.cons_append, List.singleton_append, List.nil_append]
    refine List.Perm.trans ?_ (List.Perm.append_left c (List.perm_middle (l₁ := S.flatten ++ Lu.flatten) (a := (D0, .deferred (some []))) (l₂ := R.flatten) |>.trans (by simp)))
    rw [← List.append_assoc, ← List.append_assoc c]
    refine List.Perm.trans (List.Perm.append_right _ List.perm_append_comm) ?_
    simp only [List.append_assoc]
    exact List.Perm.refl _
  rcases hor with ⟨rfl, r, Lu, rfl, hrs, hrp, hrr, hJu⟩ | ⟨pre, rfl, r, Lu, c, rfl, hrs, hrp, hrr, hJu⟩
  · have hs1 := hsat.perm (perm4 _ [(l, .loop r)] Lu)
    have hlr := hs1.here (l, .loop r) (by simp)
    refine ⟨r.pending, _, run_endLoop hlr (by rw [hrs]; simp), ?_⟩
    rw [hrp]
    have hs2 := (hs1.put (.loop { r with state := .exhausted, pending := none })).sub (L' := [(D0, .deferred (some []))] :: (S xs ++ (Lu ++ R))) (by simp)
    exact hdone D0 ρ' Lu hle' hJu _ _ ⟨by simp [ha.defers], ha.size, ha.get⟩ hs2
  · have hs1 := hsat.perm (perm4 _ [(l, .loop r)] Lu)
    have hlr := hs1.here (l, .loop r) (by simp)
    refine ⟨r.pending, _, run_endLoop hlr (by rw [hrs]; simp), ?_⟩
    rw [hrp]
    have hs2 := (hs1.put (.loop { r with state := .exhausted, pending := some c })).sub (L' := [(D0, .deferred (some []))] :: (S pre ++ (Lu ++ R))) (by simp)
    exact hstop D0 pre c ρ' Lu hle' hJu _ _ ⟨by simp [ha.defers], ha.size, ha.get⟩ hs2

end
end Go.Proofs.E

-- BITS
namespace Go.Proofs.E
open Go
set_option linter.unusedVariables false
set_option linter.unusedSimpArgs false
set_option linter.unusedSectionVars false
set_option maxRecDepth 4000
set_option maxHeartbeats 1000000
attribute [local irreducible] Yl TL TC TE Spec YSpec R1 Hp.le EnvLe TS TR YS Stays
/-! ## what both slots of a page say -/
structure FIn (ρ : Hp) (fb db base : Nat) : Prop where
  at' : ρ fb = some (.cells ⟨[.pointer (some ⟨db, 0, none⟩), .int .i64 base]⟩ 139 (0, 0))
theorem FIn.mono {ρ ρ' : Hp} {fb db base : Nat} (h : FIn ρ fb db base) (hle : ρ.le ρ') : FIn ρ' fb db base := ⟨Hp.at' hle h.at'⟩
theorem at_spec (ρ : Hp) (fb db base num which : Nat) (h : FIn ρ fb db base) (hb : base ≤ 100000) (hn : num < 64) (hw : which < 2) :
    Spec Try.prog 77 [.pointer (some ⟨fb, 0, none⟩), .int .i64 num, .int .i64 which] ρ [] (fun v ρ' L' => v = .int .i64 ((base + 4 * num + 2 * which : Nat) : Int) ∧ ρ' = ρ ∧ L' = []) := by
  have hb1 := h.at'
  refine spec_enter Try.func77 rfl rfl rfl fun u R => ?_
  simp only [argsE, List.cons_append, List.nil_append]
  repeat' (first | (refine i_op ?_; first | (refine i_qq ?_; refine qQ ?_) | refine qEf ?_ | refine qAn ?_ | refine qXo ?_ | refine qNt ?_) | refine tl_nil ?_ | (refine i_tc ?_; refine qTc ?_) | (refine i_te ?_; refine qTe ?_) | intro _)
  rw [show (base : Int) + (2 * (num : Int) + (which : Int)) * 2 = ((base + 4 * num + 2 * which : Nat) : Int) by omega]
  exact qE (L' := []) ⟨rfl, rfl, rfl⟩
def slotAt (num : Nat) (a b : Blk) : SlD := { saysF num a b with most := stampsF num a b }
def rdSlot (D : DS) (i : Nat) : DS × (Blk × Blk) × Int :=
  if (D.read i).2.2 ≠ 0 then ((D.read i).1, (zblk, zblk), (D.read i).2.2)
  else if ((D.read i).1.read (i + 1 : Nat)).2.2 ≠ 0 then (((D.read i).1.read (i + 1 : Nat)).1, (zblk, zblk), ((D.read i).1.read (i + 1 : Nat)).2.2)
  else (((D.read i).1.read (i + 1 : Nat)).1, ((D.read i).2.1, ((D.read i).1.read (i + 1 : Nat)).2.1), 0)
def slD (D : DS) (base num : Nat) : Nat → DS
  | 0 => D
  | k + 1 => (rdSlot (slD D base num k) (base + 4 * num + 2 * k)).1
def slR (D : DS) (base num k : Nat) : DS × (Blk × Blk) × Int := rdSlot (slD D base num k) (base + 4 * num + 2 * k)
def slY (num : Nat) (r : DS × (Blk × Blk) × Int) : SlD × Int := if r.2.2 ≠ 0 then (zSl, r.2.2) else (slotAt num r.2.1.1 r.2.1.2, 0)
def slotsX (D : DS) (base num : Nat) : List (SlD × Int) :=
  if (slR D base num 0).2.2 ≠ 0 then [slY num (slR D base num 0)] else [slY num (slR D base num 0), slY num (slR D base num 1)]
def encS (ρ : Hp) (y : SlD × Int) (vs : List Value) : Prop := ∃ w, vs = [.agg ⟨slV y.1 w⟩, .int .i64 y.2] ∧ CIn ρ w y.1.c.rows y.1.c.kids
theorem rdSlot_ok {D : DS} {i : Nat} (h : D.Ok) : (rdSlot D i).1.Ok := by
  unfold rdSlot
  split
  · exact h.read
  · split <;> exact h.read.read
theorem slD_ok {D : DS} {base num : Nat} (h : D.Ok) : ∀ k, (slD D base num k).Ok
  | 0 => h
  | k + 1 => rdSlot_ok (slD_ok h k)
theorem rdSlot_secs (D : DS) (i : Nat) : (rdSlot D i).1.secs = D.secs := by
  unfold rdSlot
  split
  · rw [read_secs]
  · split <;> rw [read_secs, read_secs]
theorem slD_secs (D : DS) (base num : Nat) : ∀ k, (slD D base num k).secs = D.secs
  | 0 => rfl
  | k + 1 => by rw [slD, rdSlot_secs, slD_secs D base num k]
theorem slD_dok {k : DK} {D : DS} {base num : Nat} (h : DOk k D) (j : Nat) : DOk k (slD D base num j) := ⟨slD_ok h.ok j, by rw [slD_secs]; exact h.map⟩
theorem slotsX_at {D : DS} {base num j : Nat} (h : j < (slotsX D base num).length) : (slotsX D base num)[j] = slY num (slR D base num j) := by
  have : ∀ l : List (SlD × Int), slotsX D base num = l → ∀ h : j < l.length, l[j] = slY num (slR D base num j) := by
    intro l hl h
    unfold slotsX at hl
    split at hl <;> subst hl
    · have : j = 0 := by simpa using h
      subst this; rfl
    · rcases (show j = 0 ∨ j = 1 by simp at h; omega) with rfl | rfl <;> rfl
  exact this _ rfl h
theorem slotsX_len {D : DS} {base num : Nat} (h : (slR D base num 0).2.2 = 0) : (slotsX D base num).length = 2 := by
  unfold slotsX; rw [if_neg (by simp [h])]; rfl
theorem slotsX_last {D : DS} {base num j : Nat} (h : j < (slotsX D base num).length) (he : (slR D base num j).2.2 ≠ 0) : (slotsX D base num).length = j + 1 := by
  unfold slotsX at h ⊢
  split
  · rename_i hc
    rw [if_pos hc] at h
    have : j = 0 := by simpa using h
    subst this; rfl
  · rename_i hc
    rw [if_neg hc] at h
    rcases (show j = 0 ∨ j = 1 by simp at h; omega) with rfl | rfl
    · exact absurd he hc
    · rfl
theorem slots_iter (ρ0 : Hp) (b2 b3 fb db base num : Nat) (hf : FIn ρ0 fb db base) (h2 : ρ0 b2 = some (.cells ⟨[.pointer (some ⟨fb, 0, none⟩)]⟩ 70 (0, 0))) (h3 : ρ0 b3 = some (.cells ⟨[.int .i64 num]⟩ 3 (0, 0)))
    (hb : base ≤ 100000) (hn : num < 64) (k : DK) (D : DS) (hD : DOk k D) :
    IterS Try.prog 131 [] [.pointer (some ⟨b2, 0, none⟩), .pointer (some ⟨b3, 0, none⟩)] encS ρ0 (fun pre => diskK db k (slD D base num pre.length)) (slotsX D base num) := by
  intro l J Jx hM hY ρ Lj hl0 hJ
  have hXl : (slotsX D base num).length ≤ 2 := by unfold slotsX; split <;> simp
  refine spec_enter Try.func131 rfl rfl rfl fun u R => ?_
  simp only [argsE, List.cons_append, List.nil_append, List.append_assoc, List.length_nil]
  repeat' (first | (refine i_op ?_; first | (refine i_qq ?_; refine qQ ?_) | refine qEf ?_ | refine qAn ?_ | refine qXo ?_ | refine qNt ?_) | refine tl_nil ?_ | (refine i_tc ?_; refine qTc ?_) | (refine i_te ?_; refine qTe ?_) | intro _)
  refine tc_loop_g [(0, _), (1, _), (2, _)] (fun (ζ : (Nat) × (Hp) × (SH)) => [(10, .int .i64 ζ.1)]) (fun (ζ : (Nat) × (Hp) × (SH)) => ζ.2.1) (fun (ζ : (Nat) × (Hp) × (SH)) => diskK db k (slD D base num ζ.1) ++ ζ.2.2) (fun (ζ : (Nat) × (Hp) × (SH)) => ζ.1 ≤ (slotsX D base num).length ∧ ρ.le ζ.2.1 ∧ J ((slotsX D base num).take ζ.1) ζ.2.1 ζ.2.2 ∧ (ζ.1 < 2 → ζ.1 < (slotsX D base num).length)) (fun (ζ : (Nat) × (Hp) × (SH)) => 2 - ζ.1) ((0, ρ, Lj)) (⟨Nat.zero_le _, Hp.le_refl _, hJ, fun _ => by unfold slotsX; split <;> simp⟩) ev_le ev_le rfl tk ?_
  rintro ⟨j, ρ1, L1⟩ hI
  try simp only [List.cons_append, List.nil_append, List.append_assoc, List.append_eq] at hI ⊢
  try dsimp only at hI ⊢
  obtain ⟨hj, hle1, hjj, hjx⟩ := hI
  by_cases hlt : j < 2
  · have hk2 := hjx hlt
    have hpre := take_succ_pre (slotsX D base num) j hk2
    have hts := List.take_succ_eq_append_getElem hk2
    rw [slotsX_at hk2] at hpre hts
    have hlast := slotsX_last (j := j) hk2
    have hlen2 := fun h : j = 0 => slotsX_len (D := D) (base := base) (num := num) |>.comp (fun hh : (slR D base num j).2.2 = 0 => by rw [← h]; exact hh)
    have hSd : slD D base num (j + 1) = (slR D base num j).1 := rfl
    have hDj := slD_dok (base := base) (num := num) hD j
    have hlen : (List.take j (slotsX D base num) ++ [slY num (slR D base num j)]).length = j + 1 := by simp; omega
    have hy := fun vs ρ Lj h1 h2 h3 => hY _ _ vs ρ Lj hpre h1 h2 h3
    simp only [hlen, hSd] at hy
    have hR : slR D base num j = rdSlot (slD D base num j) (base + 4 * num + 2 * j) := rfl
    unfold rdSlot at hR
    have hat := fun ρ (h : FIn ρ fb db base) => at_spec ρ fb db base num j h hb hn hlt
    have hbd : base + 4 * num + 2 * j ≤ 200000 := by omega
    generalize slR D base num j = RES at *
    generalize base + 4 * num + 2 * j = ix at *
    generalize slD D base num j = Dj at *
    have hk0 : ∀ ρ, Spec Try.prog _ _ ρ _ _ := fun ρ => kread ρ db k Dj (ix : Nat) hDj
    have hDa : DOk k (Dj.read (ix : Nat)).1 := ⟨hDj.ok.read, hDj.map.read⟩
    have hs0 := read_len hDj.ok (ix : Nat)
    generalize Dj.read (ix : Nat) = r0 at *
    obtain ⟨Da, s0, e0⟩ := r0
    dsimp only at hR hk0 hDa hs0
    have hk1 : ∀ ρ, Spec Try.prog _ _ ρ _ _ := fun ρ => kread ρ db k Da ((ix + 1 : Nat) : Nat) hDa
    have hDb : DOk k (Da.read ((ix + 1 : Nat) : Nat)).1 := ⟨hDa.ok.read, hDa.map.read⟩
    have hs1 := read_len hDa.ok ((ix + 1 : Nat) : Nat)
    generalize Da.read ((ix + 1 : Nat) : Nat) = r1 at *
    obtain ⟨Db, s1, e1⟩ := r1
    dsimp only at hR hk1 hDb hs1
    repeat' (first | (refine i_op ?_; first | (refine i_qq ?_; refine qQ ?_) | refine qEf ?_ | refine qAn ?_ | refine qXo ?_ | refine qNt ?_) | refine tl_nil ?_ | (refine i_tc ?_; refine qTc ?_) | (refine i_te ?_; refine qTe ?_) | intro _)
    rename_i b5
    have hl01 := Hp.le_trans hl0 hle1
    have hf1 := hf.mono hl01
    have hb2 := Hp.at' hl01 h2
    have hb3 := Hp.at' hl01 h3
    have hfile := hf1.at'
    have hpl0 : (s0.map u8c).length = 64 := by simpa using hs0
    have hpo0 := u8c_one s0
    have hpl1 : (s1.map u8c).length = 64 := by simpa using hs1
    have hpo1 := u8c_one s1
    have hst0 : stc ((z8 128).map u8c) (0 + Int.toNat 0 * 64) (s0.map u8c) = (s0 ++ z8 64).map u8c := by simp [stc, z8, hs0]
    have hst1 : stc ((s0 ++ z8 64).map u8c) (0 + Int.toNat 1 * 64) (s1.map u8c) = (s0 ++ s1).map u8c := by simp [stc, z8, hs0, hs1]
    have hl128 : ((s0 ++ z8 64).map u8c).length = 128 := by simp [z8, hs0]
    have hlc : ((s0 ++ s1).map u8c).length = 128 := by simp [hs0, hs1]
    have hoc := u8c_one (s0 ++ s1)
    have hix0 : (ix : Int) + 0 = (ix : Int) := by omega
    have hix1 : (ix : Int) + 1 = ((ix + 1 : Nat) : Int) := by omega
    refine tc_loop_g [(0, _), (1, _), (2, _), (4, _), (5, _), (10, _), (11, _), (12, _)] (fun (ζ : (Int) × (List Value) × (DS)) => [(13, .int .i64 ζ.1)]) (fun (ζ : (Int) × (List Value) × (DS)) => ρ1) (fun (ζ : (Int) × (List Value) × (DS)) => [[(b5, .cells ⟨ζ.2.1⟩ 110 (0, 0))]] ++ diskK db k ζ.2.2) (fun (ζ : (Int) × (List Value) × (DS)) => DOk k ζ.2.2 ∧ ((ζ.1 = 0 ∧ ζ.2.2 = Dj ∧ ζ.2.1 = (z8 128).map u8c) ∨ (ζ.1 = 1 ∧ ζ.2.2 = Da ∧ e0 = 0 ∧ ζ.2.1 = (s0 ++ z8 64).map u8c) ∨ (ζ.1 = 2 ∧ ζ.2.2 = Db ∧ e0 = 0 ∧ e1 = 0 ∧ ζ.2.1 = (s0 ++ s1).map u8c))) (fun (ζ : (Int) × (List Value) × (DS)) => (2 - ζ.1).toNat) ((0, (z8 128).map u8c, Dj)) (⟨hDj, .inl ⟨rfl, rfl, rfl⟩⟩) ev_le ev_le rfl tk ?_
    rintro ⟨i, cs, D1⟩ hI
    try simp only [List.cons_append, List.nil_append, List.append_assoc, List.append_eq] at hI ⊢
    try dsimp only at hI ⊢
    obtain ⟨hD1, hor⟩ := hI
    rcases hor with ⟨rfl, rfl, rfl⟩ | ⟨rfl, rfl, rfl, rfl⟩ | ⟨rfl, rfl, rfl, rfl, rfl⟩
    · by_cases he : e0 = 0
      · subst he
        repeat' (first | (refine i_op ?_; first | (refine i_qq ?_; refine qQ ?_) | refine qEf ?_ | refine qAn ?_ | refine qXo ?_ | refine qNt ?_) | refine tl_nil ?_ | (refine i_tc ?_; refine qTc ?_) | (refine i_te ?_; refine qTe ?_) | intro _)
        refine tc_any (Stays _ _ ([])) (stays_of (hT := tk) (Hp.le_refl _)) ?_
        all_goals refine rLd 0 ?_
        all_goals refine rNc 1 ?_
        all_goals refine rFa 2 ?_
        all_goals refine rLd 3 ?_
        all_goals refine rLd 4 ?_
        all_goals refine rLd 5 ?_
        all_goals refine rMv 6 ?_
        all_goals refine rMv 8 ?_
        all_goals (refine rStep2 (i := 7) (j := 14) ?_ ?_ <;> ((try refine qWant ?_); (first | (refine tl_is (.func 77) ?_; refine qC rfl rfl ((hat _ hf1)) ?_; rintro v ρ' L' hle ⟨rfl, rfl, rfl⟩ <;> (try simp only [List.cons_append, List.nil_append, List.append_eq])) | (refine i_qq ?_; refine qQ ?_) | (refine qEf ?_; try intro _)) <;> ((try simp only [List.cons_append, List.nil_append, List.append_eq]); refine tl_nil ?_; refine rNext ?_)))
        all_goals (first | refine rAd 9 ?_ | (refine rStep (i := 7) ?_; ((try refine qWant ?_); (first | (refine tl_is (.func 77) ?_; refine qC rfl rfl ((hat _ hf1)) ?_; rintro v ρ' L' hle ⟨rfl, rfl, rfl⟩ <;> (try simp only [List.cons_append, List.nil_append, List.append_eq])) | (refine i_qq ?_; refine qQ ?_) | (refine qEf ?_; try intro _)) <;> ((try simp only [List.cons_append, List.nil_append, List.append_eq]); refine tl_nil ?_; refine rNext ?_))))
        all_goals (first | (refine rStep2 (i := 10) (j := 14) ?_ ?_ <;> ((try refine qWant ?_); (first | (simp only [hix0]; refine tl_is (.func 26) ?_; refine qC rfl rfl (hk0 _) ?_; rintro v2 ρ2 L2 hle2 ⟨rfl, rfl, hD2, rfl⟩; try simp only [List.cons_append, List.nil_append, List.append_eq]) | (refine i_qq ?_; refine qQ ?_) | (refine qEf ?_; try intro _)) <;> ((try simp only [List.cons_append, List.nil_append, List.append_eq]); refine tl_nil ?_; refine rNext ?_))) | refine rAd 9 ?_)
        all_goals (first | refine rMv 11 ?_ | (refine rStep (i := 10) ?_; ((try refine qWant ?_); (first | (simp only [hix0]; refine tl_is (.func 26) ?_; refine qC rfl rfl (hk0 _) ?_; rintro v2 ρ2 L2 hle2 ⟨rfl, rfl, hD2, rfl⟩; try simp only [List.cons_append, List.nil_append, List.append_eq]) | (refine i_qq ?_; refine qQ ?_) | (refine qEf ?_; try intro _)) <;> ((try simp only [List.cons_append, List.nil_append, List.append_eq]); refine tl_nil ?_; refine rNext ?_))))
        all_goals (first | refine rEx 12 ?_ | refine rMv 11 ?_)
        all_goals (first | (refine rStep2 (i := 13) (j := 14) ?_ ?_ <;> ((try refine qWant ?_); (first | (refine tl_is (.func 77) ?_; refine qC rfl rfl ((hat _ hf1)) ?_; rintro v ρ' L' hle ⟨rfl, rfl, rfl⟩ <;> (try simp only [List.cons_append, List.nil_append, List.append_eq])) | (simp only [hix0]; refine tl_is (.func 26) ?_; refine qC rfl rfl (hk0 _) ?_; rintro v2 ρ2 L2 hle2 ⟨rfl, rfl, hD2, rfl⟩; try simp only [List.cons_append, List.nil_append, List.append_eq]) | (refine i_qq ?_; refine qQ ?_) | (refine qEf ?_; try intro _)) <;> ((try simp only [List.cons_append, List.nil_append, List.append_eq]); refine tl_nil ?_; refine rNext ?_))) | refine rEx 12 ?_)
        all_goals (first | (refine rStep (i := 14) ?_; ((try refine qWant ?_); (first | (refine i_qq ?_; refine qQ ?_) | (refine qEf ?_; try intro _)) <;> ((try simp only [List.cons_append, List.nil_append, List.append_eq]); refine tl_nil ?_; refine rNext ?_))) | (refine rStep2 (i := 13) (j := 15) ?_ ?_ <;> ((try refine qWant ?_); (first | (refine tl_is (.func 77) ?_; refine qC rfl rfl ((hat _ hf1)) ?_; rintro v ρ' L' hle ⟨rfl, rfl, rfl⟩ <;> (try simp only [List.cons_append, List.nil_append, List.append_eq])) | (simp only [hix0]; refine tl_is (.func 26) ?_; refine qC rfl rfl (hk0 _) ?_; rintro v2 ρ2 L2 hle2 ⟨rfl, rfl, hD2, rfl⟩; try simp only [List.cons_append, List.nil_append, List.append_eq]) | (refine i_qq ?_; refine qQ ?_) | (refine qEf ?_; try intro _)) <;> ((try simp only [List.cons_append, List.nil_append, List.append_eq]); refine tl_nil ?_; refine rNext ?_))))
        all_goals (first | (refine rStep (i := 15) ?_; ((try refine qWant ?_); (first | (refine i_qq ?_; refine qQ ?_) | (refine qEf ?_; try intro _)) <;> ((try simp only [List.cons_append, List.nil_append, List.append_eq]); refine tl_nil ?_; refine rNext ?_))) | (refine rStep (i := 13) ?_; ((try refine qWant ?_); (first | (refine tl_is (.func 77) ?_; refine qC rfl rfl ((hat _ hf1)) ?_; rintro v ρ' L' hle ⟨rfl, rfl, rfl⟩ <;> (try simp only [List.cons_append, List.nil_append, List.append_eq])) | (simp only [hix0]; refine tl_is (.func 26) ?_; refine qC rfl rfl (hk0 _) ?_; rintro v2 ρ2 L2 hle2 ⟨rfl, rfl, hD2, rfl⟩; try simp only [List.cons_append, List.nil_append, List.append_eq]) | (refine i_qq ?_; refine qQ ?_) | (refine qEf ?_; try intro _)) <;> ((try simp only [List.cons_append, List.nil_append, List.append_eq]); refine tl_nil ?_; refine rNext ?_))))
        all_goals refine rFull ?_
        all_goals refine rAs 16 ?_
        all_goals refine rDone ?_
        all_goals (repeat' (first | (refine i_op ?_; first | (refine i_qq ?_; refine qQ ?_) | refine qEf ?_ | refine qAn ?_ | refine qXo ?_ | refine qNt ?_) | refine tl_nil ?_ | (refine i_tc ?_; refine qTc ?_) | (refine i_te ?_; refine qTe ?_) | intro _))
        all_goals rw [hst0]
        all_goals refine te_round_g (1, (s0 ++ z8 64).map u8c, Da) (⟨hD2, .inr (.inl (by simp))⟩) ev_le ev_le rfl tk inferInstance (by first | omega | (dsimp only; omega))
      · have hcb : (e0 != 0) = true := by simpa using he
        have hRE : RES = (Da, (zblk, zblk), e0) := by rw [hR]; exact if_pos he
        subst hRE
        have hsY : slY num (Da, (zblk, zblk), e0) = (zSl, e0) := if_pos he
        rw [hsY] at hy hts
        have hln := hlast he
        have hfull : slotsX D base num = List.take j (slotsX D base num) ++ [(zSl, e0)] := by rw [← hts]; exact (List.take_of_length_le (by omega)).symm
        have hyE := fun ρ h1 h3 => hy [.agg ⟨slV zSl ⟨none, 0, 0, none, 0, 0⟩⟩, .int .i64 e0] ρ L1 h1 ⟨⟨none, 0, 0, none, 0, 0⟩, rfl, CIn.nil⟩ h3
        repeat' (first | (refine i_op ?_; first | (refine i_qq ?_; refine qQ ?_) | refine qEf ?_ | refine qAn ?_ | refine qXo ?_ | refine qNt ?_) | refine tl_nil ?_ | (refine i_tc ?_; refine qTc ?_) | (refine i_te ?_; refine qTe ?_) | intro _)
        refine tc_any (Stays _ _ ([])) (stays_of (hT := tk) (Hp.le_refl _)) ?_
        all_goals refine rLd 0 ?_
        all_goals refine rNc 1 ?_
        all_goals refine rFa 2 ?_
        all_goals refine rLd 3 ?_
        all_goals refine rLd 4 ?_
        all_goals refine rLd 5 ?_
        all_goals refine rMv 6 ?_
        all_goals refine rMv 8 ?_
        all_goals (refine rStep2 (i := 7) (j := 14) ?_ ?_ <;> ((try refine qWant ?_); (first | (refine tl_is (.func 77) ?_; refine qC rfl rfl ((hat _ hf1)) ?_; rintro v ρ' L' hle ⟨rfl, rfl, rfl⟩ <;> (try simp only [List.cons_append, List.nil_append, List.append_eq])) | (refine i_qq ?_; refine qQ ?_) | (refine qEf ?_; try intro _)) <;> ((try simp only [List.cons_append, List.nil_append, List.append_eq]); refine tl_nil ?_; refine rNext ?_)))
        all_goals (first | refine rAd 9 ?_ | (refine rStep (i := 7) ?_; ((try refine qWant ?_); (first | (refine tl_is (.func 77) ?_; refine qC rfl rfl ((hat _ hf1)) ?_; rintro v ρ' L' hle ⟨rfl, rfl, rfl⟩ <;> (try simp only [List.cons_append, List.nil_append, List.append_eq])) | (refine i_qq ?_; refine qQ ?_) | (refine qEf ?_; try intro _)) <;> ((try simp only [List.cons_append, List.nil_append, List.append_eq]); refine tl_nil ?_; refine rNext ?_))))
        all_goals (first | (refine rStep2 (i := 10) (j := 14) ?_ ?_ <;> ((try refine qWant ?_); (first | (simp only [hix0]; refine tl_is (.func 26) ?_; refine qC rfl rfl (hk0 _) ?_; rintro v2 ρ2 L2 hle2 ⟨rfl, rfl, hD2, rfl⟩; try simp only [List.cons_append, List.nil_append, List.append_eq]) | (refine i_qq ?_; refine qQ ?_) | (refine qEf ?_; try intro _)) <;> ((try simp only [List.cons_append, List.nil_append, List.append_eq]); refine tl_nil ?_; refine rNext ?_))) | refine rAd 9 ?_)
        all_goals (first | refine rMv 11 ?_ | (refine rStep (i := 10) ?_; ((try refine qWant ?_); (first | (simp only [hix0]; refine tl_is (.func 26) ?_; refine qC rfl rfl (hk0 _) ?_; rintro v2 ρ2 L2 hle2 ⟨rfl, rfl, hD2, rfl⟩; try simp only [List.cons_append, List.nil_append, List.append_eq]) | (refine i_qq ?_; refine qQ ?_) | (refine qEf ?_; try intro _)) <;> ((try simp only [List.cons_append, List.nil_append, List.append_eq]); refine tl_nil ?_; refine rNext ?_))))
        all_goals (first | refine rEx 12 ?_ | refine rMv 11 ?_)
        all_goals (first | (refine rStep2 (i := 13) (j := 14) ?_ ?_ <;> ((try refine qWant ?_); (first | (refine tl_is (.func 77) ?_; refine qC rfl rfl ((hat _ hf1)) ?_; rintro v ρ' L' hle ⟨rfl, rfl, rfl⟩ <;> (try simp only [List.cons_append, List.nil_append, List.append_eq])) | (simp only [hix0]; refine tl_is (.func 26) ?_; refine qC rfl rfl (hk0 _) ?_; rintro v2 ρ2 L2 hle2 ⟨rfl, rfl, hD2, rfl⟩; try simp only [List.cons_append, List.nil_append, List.append_eq]) | (refine i_qq ?_; refine qQ ?_) | (refine qEf ?_; try intro _)) <;> ((try simp only [List.cons_append, List.nil_append, List.append_eq]); refine tl_nil ?_; refine rNext ?_))) | refine rEx 12 ?_)
        all_goals (first | (refine rStep (i := 14) ?_; ((try refine qWant ?_); (first | (refine i_qq ?_; refine qQ ?_) | (refine qEf ?_; try intro _)) <;> ((try simp only [List.cons_append, List.nil_append, List.append_eq]); refine tl_nil ?_; refine rNext ?_))) | (refine rStep2 (i := 13) (j := 15) ?_ ?_ <;> ((try refine qWant ?_); (first | (refine tl_is (.func 77) ?_; refine qC rfl rfl ((hat _ hf1)) ?_; rintro v ρ' L' hle ⟨rfl, rfl, rfl⟩ <;> (try simp only [List.cons_append, List.nil_append, List.append_eq])) | (simp only [hix0]; refine tl_is (.func 26) ?_; refine qC rfl rfl (hk0 _) ?_; rintro v2 ρ2 L2 hle2 ⟨rfl, rfl, hD2, rfl⟩; try simp only [List.cons_append, List.nil_append, List.append_eq]) | (refine i_qq ?_; refine qQ ?_) | (refine qEf ?_; try intro _)) <;> ((try simp only [List.cons_append, List.nil_append, List.append_eq]); refine tl_nil ?_; refine rNext ?_))))
        all_goals (first | (refine rStep (i := 15) ?_; ((try refine qWant ?_); (first | (refine i_qq ?_; refine qQ ?_) | (refine qEf ?_; try intro _)) <;> ((try simp only [List.cons_append, List.nil_append, List.append_eq]); refine tl_nil ?_; refine rNext ?_))) | (refine rStep (i := 13) ?_; ((try refine qWant ?_); (first | (refine tl_is (.func 77) ?_; refine qC rfl rfl ((hat _ hf1)) ?_; rintro v ρ' L' hle ⟨rfl, rfl, rfl⟩ <;> (try simp only [List.cons_append, List.nil_append, List.append_eq])) | (simp only [hix0]; refine tl_is (.func 26) ?_; refine qC rfl rfl (hk0 _) ?_; rintro v2 ρ2 L2 hle2 ⟨rfl, rfl, hD2, rfl⟩; try simp only [List.cons_append, List.nil_append, List.append_eq]) | (refine i_qq ?_; refine qQ ?_) | (refine qEf ?_; try intro _)) <;> ((try simp only [List.cons_append, List.nil_append, List.append_eq]); refine tl_nil ?_; refine rNext ?_))))
        all_goals refine rFull ?_
        all_goals refine rAs 16 ?_
        all_goals refine rDone ?_
        all_goals try simp only [hcb]
        all_goals (repeat' (first | (refine tl_is (.tmp 32) ?_; refine qY rfl rfl (hyE _ hl01 hjj) ?_; rintro v ρ' L' hle ⟨Lj', rfl, ⟨rfl, hj'⟩ | ⟨rfl, hj'⟩⟩ <;> (try simp only [List.cons_append, List.nil_append, List.append_eq])) | (refine i_op ?_; first | (refine i_qq ?_; refine qQ ?_) | refine qEf ?_ | refine qAn ?_ | refine qXo ?_ | refine qNt ?_) | refine tl_nil ?_ | (refine i_tc ?_; refine qTc ?_) | (refine i_te ?_; refine qTe ?_) | intro _))
        all_goals first | exact qE (L' := diskK db k Da ++ Lj') ⟨Lj', .inl ⟨by show diskK db k Da ++ Lj' = diskK db k (slD D base num (slotsX D base num).length) ++ Lj'; rw [hln, hSd], by rw [hfull]; exact hj'⟩⟩ | exact qE (L' := diskK db k Da ++ Lj') ⟨Lj', .inr ⟨List.take j (slotsX D base num) ++ [(zSl, e0)], by show diskK db k Da ++ Lj' = diskK db k (slD D base num _) ++ Lj'; rw [← hfull, hln, hSd], hj'⟩⟩
    · by_cases he : e1 = 0
      · subst he
        repeat' (first | (refine i_op ?_; first | (refine i_qq ?_; refine qQ ?_) | refine qEf ?_ | refine qAn ?_ | refine qXo ?_ | refine qNt ?_) | refine tl_nil ?_ | (refine i_tc ?_; refine qTc ?_) | (refine i_te ?_; refine qTe ?_) | intro _)
        refine tc_any (Stays _ _ ([])) (stays_of (hT := tk) (Hp.le_refl _)) ?_
        all_goals refine rLd 0 ?_
        all_goals refine rNc 1 ?_
        all_goals refine rFa 2 ?_
        all_goals refine rLd 3 ?_
        all_goals refine rLd 4 ?_
        all_goals refine rLd 5 ?_
        all_goals refine rMv 6 ?_
        all_goals refine rMv 8 ?_
        all_goals (refine rStep2 (i := 7) (j := 14) ?_ ?_ <;> ((try refine qWant ?_); (first | (refine tl_is (.func 77) ?_; refine qC rfl rfl ((hat _ hf1)) ?_; rintro v ρ' L' hle ⟨rfl, rfl, rfl⟩ <;> (try simp only [List.cons_append, List.nil_append, List.append_eq])) | (refine i_qq ?_; refine qQ ?_) | (refine qEf ?_; try intro _)) <;> ((try simp only [List.cons_append, List.nil_append, List.append_eq]); refine tl_nil ?_; refine rNext ?_)))
        all_goals (first | refine rAd 9 ?_ | (refine rStep (i := 7) ?_; ((try refine qWant ?_); (first | (refine tl_is (.func 77) ?_; refine qC rfl rfl ((hat _ hf1)) ?_; rintro v ρ' L' hle ⟨rfl, rfl, rfl⟩ <;> (try simp only [List.cons_append, List.nil_append, List.append_eq])) | (refine i_qq ?_; refine qQ ?_) | (refine qEf ?_; try intro _)) <;> ((try simp only [List.cons_append, List.nil_append, List.append_eq]); refine tl_nil ?_; refine rNext ?_))))
        all_goals (first | (refine rStep2 (i := 10) (j := 14) ?_ ?_ <;> ((try refine qWant ?_); (first | (simp only [hix1]; refine tl_is (.func 26) ?_; refine qC rfl rfl (hk1 _) ?_; rintro v2 ρ2 L2 hle2 ⟨rfl, rfl, hD2, rfl⟩; try simp only [List.cons_append, List.nil_append, List.append_eq]) | (refine i_qq ?_; refine qQ ?_) | (refine qEf ?_; try intro _)) <;> ((try simp only [List.cons_append, List.nil_append, List.append_eq]); refine tl_nil ?_; refine rNext ?_))) | refine rAd 9 ?_)
        all_goals (first | refine rMv 11 ?_ | (refine rStep (i := 10) ?_; ((try refine qWant ?_); (first | (simp only [hix1]; refine tl_is (.func 26) ?_; refine qC rfl rfl (hk1 _) ?_; rintro v2 ρ2 L2 hle2 ⟨rfl, rfl, hD2, rfl⟩; try simp only [List.cons_append, List.nil_append, List.append_eq]) | (refine i_qq ?_; refine qQ ?_) | (refine qEf ?_; try intro _)) <;> ((try simp only [List.cons_append, List.nil_append, List.append_eq]); refine tl_nil ?_; refine rNext ?_))))
        all_goals (first | refine rEx 12 ?_ | refine rMv 11 ?_)
        all_goals (first | (refine rStep2 (i := 13) (j := 14) ?_ ?_ <;> ((try refine qWant ?_); (first | (refine tl_is (.func 77) ?_; refine qC rfl rfl ((hat _ hf1)) ?_; rintro v ρ' L' hle ⟨rfl, rfl, rfl⟩ <;> (try simp only [List.cons_append, List.nil_append, List.append_eq])) | (simp only [hix1]; refine tl_is (.func 26) ?_; refine qC rfl rfl (hk1 _) ?_; rintro v2 ρ2 L2 hle2 ⟨rfl, rfl, hD2, rfl⟩; try simp only [List.cons_append, List.nil_append, List.append_eq]) | (refine i_qq ?_; refine qQ ?_) | (refine qEf ?_; try intro _)) <;> ((try simp only [List.cons_append, List.nil_append, List.append_eq]); refine tl_nil ?_; refine rNext ?_))) | refine rEx 12 ?_)
        all_goals (first | (refine rStep (i := 14) ?_; ((try refine qWant ?_); (first | (refine i_qq ?_; refine qQ ?_) | (refine qEf ?_; try intro _)) <;> ((try simp only [List.cons_append, List.nil_append, List.append_eq]); refine tl_nil ?_; refine rNext ?_))) | (refine rStep2 (i := 13) (j := 15) ?_ ?_ <;> ((try refine qWant ?_); (first | (refine tl_is (.func 77) ?_; refine qC rfl rfl ((hat _ hf1)) ?_; rintro v ρ' L' hle ⟨rfl, rfl, rfl⟩ <;> (try simp only [List.cons_append, List.nil_append, List.append_eq])) | (simp only [hix1]; refine tl_is (.func 26) ?_; refine qC rfl rfl (hk1 _) ?_; rintro v2 ρ2 L2 hle2 ⟨rfl, rfl, hD2, rfl⟩; try simp only [List.cons_append, List.nil_append, List.append_eq]) | (refine i_qq ?_; refine qQ ?_) | (refine qEf ?_; try intro _)) <;> ((try simp only [List.cons_append, List.nil_append, List.append_eq]); refine tl_nil ?_; refine rNext ?_))))
        all_goals (first | (refine rStep (i := 15) ?_; ((try refine qWant ?_); (first | (refine i_qq ?_; refine qQ ?_) | (refine qEf ?_; try intro _)) <;> ((try simp only [List.cons_append, List.nil_append, List.append_eq]); refine tl_nil ?_; refine rNext ?_))) | (refine rStep (i := 13) ?_; ((try refine qWant ?_); (first | (refine tl_is (.func 77) ?_; refine qC rfl rfl ((hat _ hf1)) ?_; rintro v ρ' L' hle ⟨rfl, rfl, rfl⟩ <;> (try simp only [List.cons_append, List.nil_append, List.append_eq])) | (simp only [hix1]; refine tl_is (.func 26) ?_; refine qC rfl rfl (hk1 _) ?_; rintro v2 ρ2 L2 hle2 ⟨rfl, rfl, hD2, rfl⟩; try simp only [List.cons_append, List.nil_append, List.append_eq]) | (refine i_qq ?_; refine qQ ?_) | (refine qEf ?_; try intro _)) <;> ((try simp only [List.cons_append, List.nil_append, List.append_eq]); refine tl_nil ?_; refine rNext ?_))))
        all_goals refine rFull ?_
        all_goals refine rAs 16 ?_
        all_goals refine rDone ?_
        all_goals (repeat' (first | (refine i_op ?_; first | (refine i_qq ?_; refine qQ ?_) | refine qEf ?_ | refine qAn ?_ | refine qXo ?_ | refine qNt ?_) | refine tl_nil ?_ | (refine i_tc ?_; refine qTc ?_) | (refine i_te ?_; refine qTe ?_) | intro _))
        all_goals rw [hst1]
        all_goals refine te_round_g (2, (s0 ++ s1).map u8c, Db) (⟨hD2, .inr (.inr (by simp))⟩) ev_le ev_le rfl tk inferInstance (by first | omega | (dsimp only; omega))
      · have hcb : (e1 != 0) = true := by simpa using he
        have hRE : RES = (Db, (zblk, zblk), e1) := by rw [hR]; rw [if_neg (by simp)]; exact if_pos he
        subst hRE
        have hsY : slY num (Db, (zblk, zblk), e1) = (zSl, e1) := if_pos he
        rw [hsY] at hy hts
        have hln := hlast he
        have hfull : slotsX D base num = List.take j (slotsX D base num) ++ [(zSl, e1)] := by rw [← hts]; exact (List.take_of_length_le (by omega)).symm
        have hyE := fun ρ h1 h3 => hy [.agg ⟨slV zSl ⟨none, 0, 0, none, 0, 0⟩⟩, .int .i64 e1] ρ L1 h1 ⟨⟨none, 0, 0, none, 0, 0⟩, rfl, CIn.nil⟩ h3
        repeat' (first | (refine i_op ?_; first | (refine i_qq ?_; refine qQ ?_) | refine qEf ?_ | refine qAn ?_ | refine qXo ?_ | refine qNt ?_) | refine tl_nil ?_ | (refine i_tc ?_; refine qTc ?_) | (refine i_te ?_; refine qTe ?_) | intro _)
        refine tc_any (Stays _ _ ([])) (stays_of (hT := tk) (Hp.le_refl _)) ?_
        all_goals refine rLd 0 ?_
        all_goals refine rNc 1 ?_
        all_goals refine rFa 2 ?_
        all_goals refine rLd 3 ?_
        all_goals refine rLd 4 ?_
        all_goals refine rLd 5 ?_
        all_goals refine rMv 6 ?_
        all_goals refine rMv 8 ?_
        all_goals (refine rStep2 (i := 7) (j := 14) ?_ ?_ <;> ((try refine qWant ?_); (first | (refine tl_is (.func 77) ?_; refine qC rfl rfl ((hat _ hf1)) ?_; rintro v ρ' L' hle ⟨rfl, rfl, rfl⟩ <;> (try simp only [List.cons_append, List.nil_append, List.append_eq])) | (refine i_qq ?_; refine qQ ?_) | (refine qEf ?_; try intro _)) <;> ((try simp only [List.cons_append, List.nil_append, List.append_eq]); refine tl_nil ?_; refine rNext ?_)))
        all_goals (first | refine rAd 9 ?_ | (refine rStep (i := 7) ?_; ((try refine qWant ?_); (first | (refine tl_is (.func 77) ?_; refine qC rfl rfl ((hat _ hf1)) ?_; rintro v ρ' L' hle ⟨rfl, rfl, rfl⟩ <;> (try simp only [List.cons_append, List.nil_append, List.append_eq])) | (refine i_qq ?_; refine qQ ?_) | (refine qEf ?_; try intro _)) <;> ((try simp only [List.cons_append, List.nil_append, List.append_eq]); refine tl_nil ?_; refine rNext ?_))))
        all_goals (first | (refine rStep2 (i := 10) (j := 14) ?_ ?_ <;> ((try refine qWant ?_); (first | (simp only [hix1]; refine tl_is (.func 26) ?_; refine qC rfl rfl (hk1 _) ?_; rintro v2 ρ2 L2 hle2 ⟨rfl, rfl, hD2, rfl⟩; try simp only [List.cons_append, List.nil_append, List.append_eq]) | (refine i_qq ?_; refine qQ ?_) | (refine qEf ?_; try intro _)) <;> ((try simp only [List.cons_append, List.nil_append, List.append_eq]); refine tl_nil ?_; refine rNext ?_))) | refine rAd 9 ?_)
        all_goals (first | refine rMv 11 ?_ | (refine rStep (i := 10) ?_; ((try refine qWant ?_); (first | (simp only [hix1]; refine tl_is (.func 26) ?_; refine qC rfl rfl (hk1 _) ?_; rintro v2 ρ2 L2 hle2 ⟨rfl, rfl, hD2, rfl⟩; try simp only [List.cons_append, List.nil_append, List.append_eq]) | (refine i_qq ?_; refine qQ ?_) | (refine qEf ?_; try intro _)) <;> ((try simp only [List.cons_append, List.nil_append, List.append_eq]); refine tl_nil ?_; refine rNext ?_))))
        all_goals (first | refine rEx 12 ?_ | refine rMv 11 ?_)
        all_goals (first | (refine rStep2 (i := 13) (j := 14) ?_ ?_ <;> ((try refine qWant ?_); (first | (refine tl_is (.func 77) ?_; refine qC rfl rfl ((hat _ hf1)) ?_; rintro v ρ' L' hle ⟨rfl, rfl, rfl⟩ <;> (try simp only [List.cons_append, List.nil_append, List.append_eq])) | (simp only [hix1]; refine tl_is (.func 26) ?_; refine qC rfl rfl (hk1 _) ?_; rintro v2 ρ2 L2 hle2 ⟨rfl, rfl, hD2, rfl⟩; try simp only [List.cons_append, List.nil_append, List.append_eq]) | (refine i_qq ?_; refine qQ ?_) | (refine qEf ?_; try intro _)) <;> ((try simp only [List.cons_append, List.nil_append, List.append_eq]); refine tl_nil ?_; refine rNext ?_))) | refine rEx 12 ?_)
        all_goals (first | (refine rStep (i := 14) ?_; ((try refine qWant ?_); (first | (refine i_qq ?_; refine qQ ?_) | (refine qEf ?_; try intro _)) <;> ((try simp only [List.cons_append, List.nil_append, List.append_eq]); refine tl_nil ?_; refine rNext ?_))) | (refine rStep2 (i := 13) (j := 15) ?_ ?_ <;> ((try refine qWant ?_); (first | (refine tl_is (.func 77) ?_; refine qC rfl rfl ((hat _ hf1)) ?_; rintro v ρ' L' hle ⟨rfl, rfl, rfl⟩ <;> (try simp only [List.cons_append, List.nil_append, List.append_eq])) | (simp only [hix1]; refine tl_is (.func 26) ?_; refine qC rfl rfl (hk1 _) ?_; rintro v2 ρ2 L2 hle2 ⟨rfl, rfl, hD2, rfl⟩; try simp only [List.cons_append, List.nil_append, List.append_eq]) | (refine i_qq ?_; refine qQ ?_) | (refine qEf ?_; try intro _)) <;> ((try simp only [List.cons_append, List.nil_append, List.append_eq]); refine tl_nil ?_; refine rNext ?_))))
        all_goals (first | (refine rStep (i := 15) ?_; ((try refine qWant ?_); (first | (refine i_qq ?_; refine qQ ?_) | (refine qEf ?_; try intro _)) <;> ((try simp only [List.cons_append, List.nil_append, List.append_eq]); refine tl_nil ?_; refine rNext ?_))) | (refine rStep (i := 13) ?_; ((try refine qWant ?_); (first | (refine tl_is (.func 77) ?_; refine qC rfl rfl ((hat _ hf1)) ?_; rintro v ρ' L' hle ⟨rfl, rfl, rfl⟩ <;> (try simp only [List.cons_append, List.nil_append, List.append_eq])) | (simp only [hix1]; refine tl_is (.func 26) ?_; refine qC rfl rfl (hk1 _) ?_; rintro v2 ρ2 L2 hle2 ⟨rfl, rfl, hD2, rfl⟩; try simp only [List.cons_append, List.nil_append, List.append_eq]) | (refine i_qq ?_; refine qQ ?_) | (refine qEf ?_; try intro _)) <;> ((try simp only [List.cons_append, List.nil_append, List.append_eq]); refine tl_nil ?_; refine rNext ?_))))
        all_goals refine rFull ?_
        all_goals refine rAs 16 ?_
        all_goals refine rDone ?_
        all_goals try simp only [hcb]
        all_goals (repeat' (first | (refine tl_is (.tmp 32) ?_; refine qY rfl rfl (hyE _ hl01 hjj) ?_; rintro v ρ' L' hle ⟨Lj', rfl, ⟨rfl, hj'⟩ | ⟨rfl, hj'⟩⟩ <;> (try simp only [List.cons_append, List.nil_append, List.append_eq])) | (refine i_op ?_; first | (refine i_qq ?_; refine qQ ?_) | refine qEf ?_ | refine qAn ?_ | refine qXo ?_ | refine qNt ?_) | refine tl_nil ?_ | (refine i_tc ?_; refine qTc ?_) | (refine i_te ?_; refine qTe ?_) | intro _))
        all_goals first | exact qE (L' := diskK db k Db ++ Lj') ⟨Lj', .inl ⟨by show diskK db k Db ++ Lj' = diskK db k (slD D base num (slotsX D base num).length) ++ Lj'; rw [hln, hSd], by rw [hfull]; exact hj'⟩⟩ | exact qE (L' := diskK db k Db ++ Lj') ⟨Lj', .inr ⟨List.take j (slotsX D base num) ++ [(zSl, e1)], by show diskK db k Db ++ Lj' = diskK db k (slD D base num _) ++ Lj'; rw [← hfull, hln, hSd], hj'⟩⟩
    · have hRE : RES = (D1, (s0, s1), 0) := by rw [hR, if_neg (by simp), if_neg (by simp)]
      subst hRE
      have hsY : slY num (D1, (s0, s1), 0) = (slotAt num s0 s1, 0) := if_neg (by simp)
      rw [hsY] at hy hts
      have hsa := fun ρ => says_spec ρ num hn s0 s1 hs0 hs1
      have hsm := fun ρ => stamps_spec ρ num hn s0 s1 hs0 hs1
      repeat' (first | (refine tl_is (.func 132) ?_; refine qC rfl rfl (hsa _) ?_; rintro v3 ρ3 L3 hle3 ⟨hl3, w, rfl, hC, rfl⟩; have hb3' := Hp.at' hl3 hb3; try simp only [List.cons_append, List.nil_append, List.append_eq]) | (refine i_op ?_; first | (refine i_qq ?_; refine qQ ?_) | refine qEf ?_ | refine qAn ?_ | refine qXo ?_ | refine qNt ?_) | refine tl_nil ?_ | (refine i_tc ?_; refine qTc ?_) | (refine i_te ?_; refine qTe ?_) | intro _)
      repeat' (first | (refine tl_is (.func 133) ?_; refine qC rfl rfl (hsm _) ?_; rintro v4 ρ4 L4 hle4 ⟨rfl, hl4, rfl⟩; try simp only [List.cons_append, List.nil_append, List.append_eq]) | (refine i_op ?_; first | (refine i_qq ?_; refine qQ ?_) | refine qEf ?_ | refine qAn ?_ | refine qXo ?_ | refine qNt ?_) | refine tl_nil ?_ | (refine i_tc ?_; refine qTc ?_) | (refine i_te ?_; refine qTe ?_) | intro _)
      have hl14 := Hp.le_trans hl3 hl4
      have hyG := hy [.agg ⟨slV (slotAt num s0 s1) w⟩, .int .i64 0] ρ4 L1 (Hp.le_trans hl01 hl14) ⟨w, rfl, hC.mono hl4⟩ (hM _ _ _ _ hl14 hjj)
      repeat' (first | (refine tl_is (.tmp 47) ?_; refine qY rfl rfl (hyG) ?_; rintro v ρ' L' hle ⟨Lj', rfl, ⟨rfl, hj'⟩ | ⟨rfl, hj'⟩⟩ <;> (try simp only [List.cons_append, List.nil_append, List.append_eq])) | (refine i_op ?_; first | (refine i_qq ?_; refine qQ ?_) | refine qEf ?_ | refine qAn ?_ | refine qXo ?_ | refine qNt ?_) | refine tl_nil ?_ | (refine i_tc ?_; refine qTc ?_) | (refine i_te ?_; refine qTe ?_) | intro _)
      · have hD1e : D1 = slD D base num (j + 1) := hSd.symm
        have hfl : j + 1 < 2 → j + 1 < (slotsX D base num).length := fun h => by
          have := hlen2 (by omega) rfl; omega
        repeat' (first | (refine i_op ?_; first | (refine i_qq ?_; refine qQ ?_) | refine qEf ?_ | refine qAn ?_ | refine qXo ?_ | refine qNt ?_) | refine tl_nil ?_ | (refine i_tc ?_; refine qTc ?_) | (refine i_te ?_; refine qTe ?_) | intro _)
        rw [hD1e]
        refine te_round_g (j + 1, ρ', Lj') (⟨hk2, Hp.le_trans hle1 (Hp.le_trans hl14 hle), by dsimp only; rw [hts]; exact hj', hfl⟩) ev_le ev_le rfl tk inferInstance (by first | omega | (dsimp only; omega))
      · exact qE (L' := diskK db k D1 ++ Lj') ⟨Lj', .inr ⟨List.take j (slotsX D base num) ++ [(slotAt num s0 s1, 0)], by show diskK db k D1 ++ Lj' = diskK db k (slD D base num _) ++ Lj'; rw [List.length_append, List.length_singleton, List.length_take, Nat.min_eq_left (by omega), hSd], hj'⟩⟩
  · have h2 : j = 2 := by omega
    subst h2
    have hln : (slotsX D base num).length = 2 := by omega
    rw [List.take_of_length_le (by omega)] at hjj
    repeat' (first | (refine i_op ?_; first | (refine i_qq ?_; refine qQ ?_) | refine qEf ?_ | refine qAn ?_ | refine qXo ?_ | refine qNt ?_) | refine tl_nil ?_ | (refine i_tc ?_; refine qTc ?_) | (refine i_te ?_; refine qTe ?_) | intro _)
    exact qE (L' := diskK db k (slD D base num 2) ++ L1) ⟨L1, .inl ⟨by show diskK db k (slD D base num 2) ++ L1 = diskK db k (slD D base num (slotsX D base num).length) ++ L1; rw [hln], hjj⟩⟩
end Go.Proofs.E

-- BITS
namespace Go.Proofs.E
open Go
set_option linter.unusedVariables false
set_option linter.unusedSimpArgs false
set_option linter.unusedSectionVars false
set_option maxRecDepth 4000
set_option maxHeartbeats 1000000
attribute [local irreducible] Yl TL TC TE Spec YSpec R1 Hp.le EnvLe TS TR YS Stays
theorem slots_spec (ρ : Hp) (fb num : Nat) :
    Spec Try.prog 102 [.pointer (some ⟨fb, 0, none⟩), .int .i64 num] ρ [] (fun v ρ' L' => ρ.le ρ' ∧ ∃ b2 b3, v = .func (.func 131) ⟨[]⟩ ⟨[.pointer (some ⟨b2, 0, none⟩), .pointer (some ⟨b3, 0, none⟩)]⟩ ∧ ρ' b2 = some (.cells ⟨[.pointer (some ⟨fb, 0, none⟩)]⟩ 70 (0, 0)) ∧ ρ' b3 = some (.cells ⟨[.int .i64 num]⟩ 3 (0, 0)) ∧ L' = []) := by
  refine spec_enter Try.func102 rfl rfl rfl fun u R => ?_
  simp only [argsE, List.cons_append, List.nil_append]
  repeat' (first | (refine i_op ?_; first | (refine i_qq ?_; refine qQ ?_) | refine qEf ?_ | refine qAn ?_ | refine qXo ?_ | refine qNt ?_) | refine tl_nil ?_ | (refine i_tc ?_; refine qTc ?_) | (refine i_te ?_; refine qTe ?_) | intro _)
  rename_i b2 b3
  refine te_freeze [(b2, .cells ⟨[.pointer (some ⟨fb, 0, none⟩)]⟩ 70 (0, 0))] (h := by infer_instance) (fun ρ1 hl1 hf1 => ?_)
  refine te_freeze [(b3, .cells ⟨[.int .i64 num]⟩ 3 (0, 0))] (h := by infer_instance) (fun ρ2 hl2 hf2 => ?_)
  have h1 := Hp.at' hl2 (hf1 _ (List.mem_singleton.2 rfl))
  have h2 := hf2 _ (List.mem_singleton.2 rfl)
  have hfin := Hp.le_trans hl1 hl2
  exact qE (L' := []) ⟨hfin, b2, b3, rfl, h1, h2, rfl⟩
structure CS where
  best : SlD
  other : Nat
  most : Nat
def CS.step (a : CS) (which : Nat) (s : SlD) : CS :=
  if s.right = true ∧ (a.best.right = false ∨ a.best.stamp < s.stamp) then ⟨s, 1 - which, max a.most s.most⟩ else ⟨a.best, a.other, max a.most s.most⟩
def csTo (D : DS) (base num : Nat) : Nat → CS
  | 0 => ⟨zSl, 0, 0⟩
  | k + 1 => (csTo D base num k).step k (slY num (slR D base num k)).1
theorem pre_last {α : Type} {pre X : List α} {y : α} (h : pre ++ [y] <+: X) : ∃ hl : pre.length < X.length, X[pre.length] = y := by
  obtain ⟨t, rfl⟩ := h
  exact ⟨by simp, by simp⟩
theorem saysF_lt (num : Nat) (a b : Blk) : (saysF num a b).stamp < 18446744073709551616 ∧ (saysF num a b).lsn < 18446744073709551616 := by
  unfold saysF
  split
  · exact ⟨by decide, by decide⟩
  · exact ⟨unbe_take8 _, unbe_take8 _⟩
theorem stampsF_lt (num : Nat) (a b : Blk) : stampsF num a b < 18446744073709551616 := by
  have h1 := stampOf_lt a; have h2 := stampOf_lt b
  unfold stampsF stampR
  repeat' split
  all_goals omega
structure SlLt (s : SlD) : Prop where
  stamp : s.stamp < 18446744073709551616
  lsn : s.lsn < 18446744073709551616
  most : s.most < 18446744073709551616
theorem zSl_lt : SlLt zSl := ⟨by decide, by decide, by decide⟩
theorem slY_lt (num : Nat) (r : DS × (Blk × Blk) × Int) : SlLt (slY num r).1 := by
  unfold slY
  split
  · exact zSl_lt
  · exact ⟨(saysF_lt _ _ _).1, (saysF_lt _ _ _).2, stampsF_lt _ _ _⟩
theorem csTo_lt (D : DS) (base num : Nat) : ∀ k, SlLt (csTo D base num k).best ∧ (csTo D base num k).most < 18446744073709551616 ∧ (csTo D base num k).other < 2
  | 0 => ⟨zSl_lt, by show (0 : Nat) < _; omega, by show (0 : Nat) < 2; omega⟩
  | k + 1 => by
    obtain ⟨h1, h2, h3⟩ := csTo_lt D base num k
    have h4 := slY_lt num (slR D base num k)
    have h5 := h4.most
    rw [csTo, CS.step]
    split
    · exact ⟨h4, by dsimp only; omega, by dsimp only; omega⟩
    · exact ⟨h1, by dsimp only; omega, h3⟩
/-- what the slots of a page on a disk come to -/
def countsD (D : DS) (base num : Nat) : (SlD × Nat) × DS × Int :=
  if (slR D base num 0).2.2 ≠ 0 then ((zSl, 0), (slR D base num 0).1, (slR D base num 0).2.2)
  else if (slR D base num 1).2.2 ≠ 0 then ((zSl, 0), (slR D base num 1).1, (slR D base num 1).2.2)
  else (({ (csTo D base num 2).best with most := (csTo D base num 2).most }, (csTo D base num 2).other), slD D base num 2, 0)
abbrev cntC (b4 b5 b6 b7 b8 : Nat) (s : SlD) (w : CV) (other : Int) (e which : Int) (most : Nat) : SH := [[(b4, .cells ⟨slV s w⟩ 133 (0, 0))], [(b5, .cells ⟨[.int .i64 other]⟩ 3 (0, 0))], [(b6, .cells ⟨[.int .i64 e]⟩ 33 (0, 0))], [(b7, .cells ⟨[.int .i64 which]⟩ 3 (0, 0))], [(b8, .cells ⟨[.int .u64 most]⟩ 29 (0, 0))]]
abbrev zCV : CV := ⟨none, 0, 0, none, 0, 0⟩
theorem fcounts_spec (ρ : Hp) (fb db base num : Nat) (hf : FIn ρ fb db base) (hb : base ≤ 100000) (hn : num < 64) (k : DK) (D : DS) (hD : DOk k D) :
    Spec Try.prog 74 [.pointer (some ⟨fb, 0, none⟩), .int .i64 num] ρ (diskK db k D) (fun v ρ' L' => ρ.le ρ' ∧ ∃ w, v = .tuple ⟨[.agg ⟨slV (countsD D base num).1.1 w⟩, .int .i64 (countsD D base num).1.2, .int .i64 (countsD D base num).2.2]⟩ ∧ CIn ρ' w (countsD D base num).1.1.c.rows (countsD D base num).1.1.c.kids ∧ DOk k (countsD D base num).2.1 ∧ L' = diskK db k (countsD D base num).2.1) := by
  refine spec_enter Try.func74 rfl rfl rfl fun u R => ?_
  simp only [argsE, List.cons_append, List.nil_append]
  repeat' (first | (refine tl_is (.func 102) ?_; refine qC rfl rfl (slots_spec _ fb num) ?_; rintro v1 ρ1 L1 hle1 ⟨hl1, c2, c3, rfl, hc2, hc3, rfl⟩; try simp only [List.cons_append, List.nil_append, List.append_eq]) | (refine i_op ?_; first | (refine i_qq ?_; refine qQ ?_) | refine qEf ?_ | refine qAn ?_ | refine qXo ?_ | refine qNt ?_) | refine tl_nil ?_ | (refine i_tc ?_; refine qTc ?_) | (refine i_te ?_; refine qTe ?_) | intro _)
  rename_i b4 b5 b6 b7 b8
  have hf1 := hf.mono hl1
  have hIt := slots_iter ρ1 c2 c3 fb db base num hf1 hc2 hc3 hb hn k D hD
  have hXl : (slotsX D base num).length ≤ 2 := by unfold slotsX; split <;> simp
  have hlt := csTo_lt D base num
  refine tc_rangeFuncS (S := fun pre => diskK db k (slD D base num pre.length)) (L0 := cntC b4 b5 b6 b7 b8 zSl zCV 0 0 0 0) (R := R) (R0 := [(b8, .cells ⟨[.int .u64 0]⟩ 29 (0, 0))] :: [(b7, .cells ⟨[.int .i64 0]⟩ 3 (0, 0))] :: [(b6, .cells ⟨[.int .i64 0]⟩ 33 (0, 0))] :: [(b5, .cells ⟨[.int .i64 0]⟩ 3 (0, 0))] :: [(b4, .cells ⟨slV zSl zCV⟩ 133 (0, 0))] :: R) rfl rfl hIt (Hp.le_refl _) (fun ρ y vs ⟨w, e, _⟩ => by rw [e]; rfl) rfl
    (fun pre ρ2 Lu => ρ1.le ρ2 ∧ (∀ j, j < pre.length → (slR D base num j).2.2 = 0) ∧ ∃ w, CIn ρ2 w (csTo D base num pre.length).best.c.rows (csTo D base num pre.length).best.c.kids ∧ Lu = cntC b4 b5 b6 b7 b8 (csTo D base num pre.length).best w (csTo D base num pre.length).other 0 pre.length (csTo D base num pre.length).most)
    (fun pre c ρ2 Lu => c = .ret ∧ ρ1.le ρ2 ∧ ∃ which most e, e ≠ 0 ∧ countsD D base num = ((zSl, 0), slD D base num pre.length, e) ∧ Lu = cntC b4 b5 b6 b7 b8 zSl zCV 0 e which most)
    ?k1 ?k2 (fun pre ρ2 ρ3 Lj h23 ⟨h1, h2, w, h3, h4⟩ => ⟨Hp.le_trans h1 h23, h2, w, h3.mono h23, h4⟩) ⟨Hp.le_refl _, by simp, zCV, CIn.nil, rfl⟩ ?round ?done ?stop
  case k1 => exact tk
  case k2 => exact tk
  case round =>
    rintro l tm r pre y vs ρ2 Lu u R' hpre hl2 ⟨w, rfl, hC⟩ ⟨hl3, hno, w0, hC0, rfl⟩ hr hrec
    obtain ⟨hpl, hy⟩ := pre_last hpre
    rw [slotsX_at hpl] at hy
    have hp2 : pre.length < 2 := by omega
    simp only [envP, List.cons_append, List.nil_append, List.length_append, List.length_singleton]
    have hq := hlt pre.length
    repeat' (first | (refine i_op ?_; first | (refine i_qq ?_; refine qQ ?_) | refine qEf ?_ | refine qAn ?_ | refine qXo ?_ | refine qNt ?_) | refine tl_nil ?_ | (refine i_tc ?_; refine qTc ?_) | (refine i_te ?_; refine qTe ?_) | intro _)
    refine te_front [(l, .loop r)] ?_
    refine te_begin rfl hr (fun r' hbz hrec' => ?_)
    rename_i b9
    have hy2 : y.2 = (slR D base num pre.length).2.2 := by
      rw [← hy]; unfold slY; split
      · rfl
      · rename_i hc; simp only [ne_eq, Decidable.not_not] at hc; rw [hc]
    by_cases he : y.2 = 0
    · have hno' : ∀ j, j < pre.length + 1 → (slR D base num j).2.2 = 0 := fun j hj => by
        rcases (show j < pre.length ∨ j = pre.length by omega) with h | h
        · exact hno j h
        · rw [h, ← hy2, he]
      have hstep : csTo D base num (pre.length + 1) = (csTo D base num pre.length).step pre.length y.1 := by rw [← hy]; rfl
      have hsl := slY_lt num (slR D base num pre.length)
      rw [hy] at hsl
      obtain ⟨s, e⟩ := y
      dsimp only at he hstep hC hsl
      subst he
      clear hy hy2
      unfold CS.step at hstep
      obtain ⟨hb1, hb2, hb3⟩ := hq
      have hb4 := hb1.stamp
      have hb5 := hsl.stamp
      have hb6 := hsl.most
      generalize csTo D base num pre.length = a at *
      obtain ⟨sst, sls, sc, srt, smo⟩ := s
      obtain ⟨⟨bst, bls, bc, brt, bmo⟩, aot, amo⟩ := a
      dsimp only at *
      have h1w : (1 : Int) - (pre.length : Int) = ((1 - pre.length : Nat) : Int) := by omega
      have h2w : (pre.length : Int) + 1 = ((pre.length + 1 : Nat) : Int) := by omega
      have h3m : max ((amo : Nat) : Int) ((smo : Nat) : Int) = ((max amo smo : Nat) : Int) := by omega
      cases srt
      · skip
        rw [if_neg (by simp)] at hstep
        repeat' (first | (refine i_op ?_; first | (refine i_qq ?_; refine qQ ?_) | refine qEf ?_ | refine qAn ?_ | refine qXo ?_ | refine qNt ?_) | refine tl_nil ?_ | (refine i_tc ?_; refine qTc ?_) | (refine i_te ?_; refine qTe ?_) | intro _)
        simp only [h2w, h3m]
        refine te_front [(l, .loop r')] ?_
        refine te_next (Lu := cntC b4 b5 b6 b7 b8 ⟨bst, bls, bc, brt, bmo⟩ w0 aot 0 ((pre.length + 1 : Nat) : Int) (max amo smo)) rfl (Hp.le_refl _) ⟨hrec'.tmps.trans hrec.tmps, hrec'.params.trans hrec.params, hrec'.assign.trans hrec.assign, hrec'.body.trans hrec.body⟩ tk tk inferInstance ?_
        exact ⟨hl3, hno', w0, by rw [hstep]; exact hC0, by rw [hstep]⟩
      · cases brt
        · skip
          rw [if_pos (by simp)] at hstep
          repeat' (first | (refine i_op ?_; first | (refine i_qq ?_; refine qQ ?_) | refine qEf ?_ | refine qAn ?_ | refine qXo ?_ | refine qNt ?_) | refine tl_nil ?_ | (refine i_tc ?_; refine qTc ?_) | (refine i_te ?_; refine qTe ?_) | intro _)
          refine tc_any (Stays _ _ ([[(b9, .cells ⟨slV ⟨sst, sls, sc, true, smo⟩ w⟩ 133 (0, 0))], [(b7, .cells ⟨[.int .i64 (pre.length : Nat)]⟩ 3 (0, 0))]])) (stays_of (hT := tk) (Hp.le_refl _)) ?_
          all_goals refine rLd 0 ?_
          all_goals refine rLd 1 ?_
          all_goals refine rSb 2 ?_
          all_goals (refine rStep (i := 3) ?_; ((try refine qWant ?_); (first | (refine qEf ?_; try intro _)) <;> ((try simp only [List.cons_append, List.nil_append, List.append_eq]); refine tl_nil ?_; refine rNext ?_)))
          all_goals (refine rStep (i := 4) ?_; ((try refine qWant ?_); (first | (refine qEf ?_; try intro _)) <;> ((try simp only [List.cons_append, List.nil_append, List.append_eq]); refine tl_nil ?_; refine rNext ?_)))
          all_goals refine rDone ?_
          all_goals (repeat' (first | (refine i_op ?_; first | (refine i_qq ?_; refine qQ ?_) | refine qEf ?_ | refine qAn ?_ | refine qXo ?_ | refine qNt ?_) | refine tl_nil ?_ | (refine i_tc ?_; refine qTc ?_) | (refine i_te ?_; refine qTe ?_) | intro _))
          all_goals simp only [h1w, h2w, h3m]
          all_goals refine te_front [(l, .loop r')] ?_
          all_goals refine te_next (Lu := cntC b4 b5 b6 b7 b8 ⟨sst, sls, sc, true, smo⟩ w ((1 - pre.length : Nat) : Int) 0 ((pre.length + 1 : Nat) : Int) (max amo smo)) rfl (Hp.le_refl _) ⟨hrec'.tmps.trans hrec.tmps, hrec'.params.trans hrec.params, hrec'.assign.trans hrec.assign, hrec'.body.trans hrec.body⟩ tk tk inferInstance ?_
          all_goals exact ⟨hl3, hno', w, by rw [hstep]; exact hC, by rw [hstep]⟩
        · by_cases hlt2 : bst < sst
          · have hlt3 : ((bst : Nat) : Int) < ((sst : Nat) : Int) := by omega
            rw [if_pos (⟨rfl, .inr hlt2⟩)] at hstep
            repeat' (first | (refine i_op ?_; first | (refine i_qq ?_; refine qQ ?_) | refine qEf ?_ | refine qAn ?_ | refine qXo ?_ | refine qNt ?_) | refine tl_nil ?_ | (refine i_tc ?_; refine qTc ?_) | (refine i_te ?_; refine qTe ?_) | intro _)
            refine tc_any (Stays _ _ ([[(b9, .cells ⟨slV ⟨sst, sls, sc, true, smo⟩ w⟩ 133 (0, 0))], [(b7, .cells ⟨[.int .i64 (pre.length : Nat)]⟩ 3 (0, 0))]])) (stays_of (hT := tk) (Hp.le_refl _)) ?_
            all_goals refine rLd 0 ?_
            all_goals refine rLd 1 ?_
            all_goals refine rSb 2 ?_
            all_goals (refine rStep (i := 3) ?_; ((try refine qWant ?_); (first | (refine qEf ?_; try intro _)) <;> ((try simp only [List.cons_append, List.nil_append, List.append_eq]); refine tl_nil ?_; refine rNext ?_)))
            all_goals (refine rStep (i := 4) ?_; ((try refine qWant ?_); (first | (refine qEf ?_; try intro _)) <;> ((try simp only [List.cons_append, List.nil_append, List.append_eq]); refine tl_nil ?_; refine rNext ?_)))
            all_goals refine rDone ?_
            all_goals (repeat' (first | (refine i_op ?_; first | (refine i_qq ?_; refine qQ ?_) | refine qEf ?_ | refine qAn ?_ | refine qXo ?_ | refine qNt ?_) | refine tl_nil ?_ | (refine i_tc ?_; refine qTc ?_) | (refine i_te ?_; refine qTe ?_) | intro _))
            all_goals simp only [h1w, h2w, h3m]
            all_goals refine te_front [(l, .loop r')] ?_
            all_goals refine te_next (Lu := cntC b4 b5 b6 b7 b8 ⟨sst, sls, sc, true, smo⟩ w ((1 - pre.length : Nat) : Int) 0 ((pre.length + 1 : Nat) : Int) (max amo smo)) rfl (Hp.le_refl _) ⟨hrec'.tmps.trans hrec.tmps, hrec'.params.trans hrec.params, hrec'.assign.trans hrec.assign, hrec'.body.trans hrec.body⟩ tk tk inferInstance ?_
            all_goals exact ⟨hl3, hno', w, by rw [hstep]; exact hC, by rw [hstep]⟩
          · have hlt3 : ¬ ((bst : Nat) : Int) < ((sst : Nat) : Int) := by omega
            rw [if_neg (by simp; omega)] at hstep
            repeat' (first | (refine i_op ?_; first | (refine i_qq ?_; refine qQ ?_) | refine qEf ?_ | refine qAn ?_ | refine qXo ?_ | refine qNt ?_) | refine tl_nil ?_ | (refine i_tc ?_; refine qTc ?_) | (refine i_te ?_; refine qTe ?_) | intro _)
            simp only [h2w, h3m]
            refine te_front [(l, .loop r')] ?_
            refine te_next (Lu := cntC b4 b5 b6 b7 b8 ⟨bst, bls, bc, true, bmo⟩ w0 aot 0 ((pre.length + 1 : Nat) : Int) (max amo smo)) rfl (Hp.le_refl _) ⟨hrec'.tmps.trans hrec.tmps, hrec'.params.trans hrec.params, hrec'.assign.trans hrec.assign, hrec'.body.trans hrec.body⟩ tk tk inferInstance ?_
            exact ⟨hl3, hno', w0, by rw [hstep]; exact hC0, by rw [hstep]⟩
    · have hcb : (y.2 != 0) = true := by simpa using he
      have hcd : countsD D base num = ((zSl, 0), slD D base num (pre.length + 1), y.2) := by
        rw [hy2] at he ⊢
        unfold countsD
        rcases (show pre.length = 0 ∨ pre.length = 1 by omega) with h | h
        · rw [h] at he ⊢; rw [if_pos he]; rfl
        · rw [h] at he ⊢; rw [if_neg (by have := hno 0 (by omega); simp [this]), if_pos he]; rfl
      repeat' (first | (refine i_op ?_; first | (refine i_qq ?_; refine qQ ?_) | refine qEf ?_ | refine qAn ?_ | refine qXo ?_ | refine qNt ?_) | refine tl_nil ?_ | (refine i_tc ?_; refine qTc ?_) | (refine i_te ?_; refine qTe ?_) | intro _)
      refine te_front [(l, .loop r')] ?_
      refine te_leave (Lu := cntC b4 b5 b6 b7 b8 zSl zCV 0 y.2 pre.length (csTo D base num pre.length).most) rfl rfl (Hp.le_refl _) ⟨hrec'.tmps.trans hrec.tmps, hrec'.params.trans hrec.params, hrec'.assign.trans hrec.assign, hrec'.body.trans hrec.body⟩ tk tk inferInstance ?_
      exact ⟨rfl, hl3, _, _, y.2, he, hcd, rfl⟩
  case done =>
    rintro D0 ρ2 Lu hl2 ⟨hl3, hno, w, hC, rfl⟩
    have h0 : (slR D base num 0).2.2 = 0 := hno 0 (by unfold slotsX; split <;> simp)
    have hln := slotsX_len h0
    have h1 := hno 1 (by omega)
    have hcd : countsD D base num = (({ (csTo D base num 2).best with most := (csTo D base num 2).most }, (csTo D base num 2).other), slD D base num 2, 0) := by
      unfold countsD
      rw [if_neg (by simp [h0]), if_neg (by simp [h1])]
    rw [hln] at hC
    simp only [List.cons_append, List.nil_append, hln]
    generalize csTo D base num 2 = a at *
    obtain ⟨⟨bst, bls, bc, brt, bmo⟩, aot, amo⟩ := a
    dsimp only at *
    have hfin := Hp.le_trans hl1 hl3
    repeat' (first | (refine i_op ?_; first | (refine i_qq ?_; refine qQ ?_) | refine qEf ?_ | refine qAn ?_ | refine qXo ?_ | refine qNt ?_) | refine tl_nil ?_ | (refine i_tc ?_; refine qTc ?_) | (refine i_te ?_; refine qTe ?_) | intro _)
    refine tc_any (Stays _ _ ([])) (stays_of (hT := tk) (Hp.le_refl _)) ?_
    all_goals (refine rStep2 (i := 0) (j := 1) ?_ ?_ <;> ((try refine qWant ?_); (first | (refine i_qq ?_; refine qQ ?_) | (refine qEf ?_; try intro _)) <;> ((try simp only [List.cons_append, List.nil_append, List.append_eq]); refine tl_nil ?_; refine rNext ?_)))
    all_goals (first | (refine rStep2 (i := 1) (j := 2) ?_ ?_ <;> ((try refine qWant ?_); (first | (refine i_qq ?_; refine qQ ?_) | (refine qEf ?_; try intro _)) <;> ((try simp only [List.cons_append, List.nil_append, List.append_eq]); refine tl_nil ?_; refine rNext ?_))) | (refine rStep (i := 0) ?_; ((try refine qWant ?_); (first | (refine i_qq ?_; refine qQ ?_) | (refine qEf ?_; try intro _)) <;> ((try simp only [List.cons_append, List.nil_append, List.append_eq]); refine tl_nil ?_; refine rNext ?_))))
    all_goals (first | (refine rStep (i := 2) ?_; ((try refine qWant ?_); (first | (refine i_qq ?_; refine qQ ?_) | (refine qEf ?_; try intro _)) <;> ((try simp only [List.cons_append, List.nil_append, List.append_eq]); refine tl_nil ?_; refine rNext ?_))) | (refine rStep (i := 1) ?_; ((try refine qWant ?_); (first | (refine i_qq ?_; refine qQ ?_) | (refine qEf ?_; try intro _)) <;> ((try simp only [List.cons_append, List.nil_append, List.append_eq]); refine tl_nil ?_; refine rNext ?_))))
    all_goals (refine rStep (i := 3) ?_; ((try refine qWant ?_); (first | (refine i_qq ?_; refine qQ ?_) | (refine qEf ?_; try intro _)) <;> ((try simp only [List.cons_append, List.nil_append, List.append_eq]); refine tl_nil ?_; refine rNext ?_)))
    all_goals (refine rStep (i := 4) ?_; ((try refine qWant ?_); (first | (refine i_qq ?_; refine qQ ?_) | (refine qEf ?_; try intro _)) <;> ((try simp only [List.cons_append, List.nil_append, List.append_eq]); refine tl_nil ?_; refine rNext ?_)))
    all_goals refine rDone ?_
    all_goals (repeat' (first | (refine i_op ?_; first | (refine i_qq ?_; refine qQ ?_) | refine qEf ?_ | refine qAn ?_ | refine qXo ?_ | refine qNt ?_) | refine tl_nil ?_ | (refine i_tc ?_; refine qTc ?_) | (refine i_te ?_; refine qTe ?_) | intro _))
    all_goals refine te_front [(D0, .deferred (some []))] ?_
    all_goals rw [hcd]
    all_goals exact te_end_d rfl rfl rfl inferInstance (res3 rfl (r1_cell rfl rfl) (r1_cell_s rfl rfl) (r1_cell_s rfl rfl)) hfin tk (by infer_instance) (L' := diskK db k (slD D base num 2)) ⟨hfin, w, rfl, hC, slD_dok hD 2, rfl⟩
  case stop =>
    rintro D0 pre c ρ2 Lu hl2 ⟨rfl, hl3, which, most, e, he, hcd, rfl⟩
    simp only [List.cons_append, List.nil_append]
    have hfin := Hp.le_trans hl1 hl3
    repeat' (first | (refine i_op ?_; first | (refine i_qq ?_; refine qQ ?_) | refine qEf ?_ | refine qAn ?_ | refine qXo ?_ | refine qNt ?_) | refine tl_nil ?_ | (refine i_tc ?_; refine qTc ?_) | (refine i_te ?_; refine qTe ?_) | intro _)
    refine te_front [(D0, .deferred (some []))] ?_
    rw [hcd]
    exact te_end_d rfl rfl rfl inferInstance (res3 rfl (r1_cell rfl rfl) (r1_cell_s rfl rfl) (r1_cell_s rfl rfl)) hfin tk (by infer_instance) (L' := diskK db k (slD D base num pre.length)) ⟨hfin, zCV, rfl, CIn.nil, slD_dok hD _, rfl⟩
end Go.Proofs.E

