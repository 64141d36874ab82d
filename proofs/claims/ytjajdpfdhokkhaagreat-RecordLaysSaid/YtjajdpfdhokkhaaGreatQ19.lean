/- The law RecordLays. Part 19 of 21. -/
import Derived.Test.YtjajdpfdhokkhaaGreatQ18
namespace Go.Proofs.E
open Go
set_option linter.unusedVariables false
set_option linter.unusedSimpArgs false
set_option linter.unusedSectionVars false
set_option maxRecDepth 4000
set_option maxHeartbeats 1000000
attribute [local irreducible] Yl TL TC TE Spec YSpec R1 Hp.le EnvLe TS TR YS Stays
theorem sameR_spec (ρ : Hp) (w w' : CV) (c d : Cont) (h : CIn ρ w c.rows c.kids) (h' : CIn ρ w' d.rows d.kids) :
    Spec Tryz.prog 93 [.agg ⟨contV c.kind w⟩, .agg ⟨contV d.kind w'⟩] ρ [] (fun v ρ' L' => v = .bool (decide (c = d)) ∧ ρ' = ρ ∧ L' = []) := by
  obtain ⟨kind, rows, kids⟩ := c
  obtain ⟨kind', rows', kids'⟩ := d
  obtain ⟨ra, rn, rc, ka, kn, kc⟩ := w
  obtain ⟨ra', rn', rc', ka', kn', kc'⟩ := w'
  obtain ⟨hr, hk, hrb, hkb, hrc, hkc⟩ := h
  obtain ⟨hr', hk', hrb', hkb', hrc', hkc'⟩ := h'
  dsimp only at hrc hkc hr hk hrb hkb hrc' hkc' hr' hk' hrb' hkb' ⊢
  have hrn := hr.len
  have hkn := hk.len
  have hrn' := hr'.len
  have hkn' := hk'.len
  simp only [Cont.mk.injEq]
  refine spec_enter Tryz.func93 rfl rfl rfl fun u R => ?_
  simp only [argsE, List.cons_append, List.nil_append, contV]
  by_cases h1 : kind = kind'
  · by_cases h2 : rn = rn'
    · by_cases h3 : kn = kn'
      · subst h1; subst h2; subst h3
        repeat' (first | (refine i_op ?_; first | (refine i_qq ?_; refine qQ ?_) | refine qEf ?_) | refine tl_nil ?_ | (refine i_tc ?_; refine qTc ?_) | (refine i_te ?_; refine qTe ?_) | intro _)
        rename_i b1 b2
        refine tc_loop_g [(2, _), (3, _), (4, _), (32, _)] (fun (ζ : (Nat)) => [(33, .int .i64 ζ)]) (fun (ζ : (Nat)) => ρ) (fun (ζ : (Nat)) => [[(b2, .cells ⟨[.int .i64 kind, .slice ra' rn rc', .slice ka' kn kc']⟩ 110 (0, 0))], [(b1, .cells ⟨[.int .i64 kind, .slice ra rn rc, .slice ka kn kc]⟩ 110 (0, 0))]]) (fun (ζ : (Nat)) => ζ ≤ rn ∧ rows.take ζ = rows'.take ζ) (fun (ζ : (Nat)) => rn - ζ) (0) (⟨Nat.zero_le _, rfl⟩) ev_le ev_le rfl tk ?_
        rintro k hI
        try simp only [List.cons_append, List.nil_append, List.append_assoc, List.append_eq] at hI ⊢
        try dsimp only at hI ⊢
        obtain ⟨hk0, hpre⟩ := hI
        by_cases hlt : k < rn
        · obtain ⟨b, off, C, T, fr, rfl, hb, hfit, hc⟩ := hr.get (show k < rows.length by omega)
          obtain ⟨b', off', C', T', fr', rfl, hb', hfit', hc'⟩ := hr'.get (show k < rows'.length by omega)
          have ht1 := List.take_succ_eq_append_getElem (show k < rows.length by omega)
          have ht2 := List.take_succ_eq_append_getElem (show k < rows'.length by omega)
          have hf : rows = rows' → rows[k]'(by omega) = rows'[k]'(by omega) := fun e => by subst e; rfl
          generalize rows[k]'(by omega) = x at *
          generalize rows'[k]'(by omega) = y at *
          by_cases he : x = y
          · have hd : decide (x = y) = true := decide_eq_true he
            repeat' (first | (refine i_op ?_; first | (refine i_qq ?_; refine qQ ?_) | refine qEf ?_) | refine tl_nil ?_ | (refine i_tc ?_; refine qTc ?_) | (refine i_te ?_; refine qTe ?_) | intro _)
            refine tc_any (Stays _ _ ([[(b2, .cells ⟨[.int .i64 kind, .slice (some ⟨b', off', none⟩) rn rc', .slice ka' kn kc']⟩ 110 (0, 0))], [(b1, .cells ⟨[.int .i64 kind, .slice (some ⟨b, off, none⟩) rn rc, .slice ka kn kc]⟩ 110 (0, 0))]])) (stays_of (hT := tk) (Hp.le_refl _)) ?_
            all_goals refine rFa 0 ?_
            all_goals refine rFull ?_
            all_goals refine rLd 1 ?_
            all_goals refine rMv 2 ?_
            all_goals refine rIa 3 ?_
            all_goals refine rLd 4 ?_
            all_goals refine rFa 5 ?_
            all_goals refine rLd 6 ?_
            all_goals refine rMv 7 ?_
            all_goals refine rIa 8 ?_
            all_goals refine rLd 9 ?_
            all_goals refine rCm 10 ?_
            all_goals refine rDone ?_
            repeat' (first | (refine i_op ?_; first | (refine i_qq ?_; refine qQ ?_) | refine qEf ?_) | refine tl_nil ?_ | (refine i_tc ?_; refine qTc ?_) | (refine i_te ?_; refine qTe ?_) | intro _)
            refine te_round_g (k + 1) (⟨hlt, by rw [ht1, ht2, hpre, he]⟩) ev_le ev_le rfl tk inferInstance (by first | omega | (dsimp only; omega))
          · have hd : decide (x = y) = false := decide_eq_false he
            rw [decide_eq_false (fun e => he (hf e.2.1))]
            repeat' (first | (refine i_op ?_; first | (refine i_qq ?_; refine qQ ?_) | refine qEf ?_) | refine tl_nil ?_ | (refine i_tc ?_; refine qTc ?_) | (refine i_te ?_; refine qTe ?_) | intro _)
            refine tc_any (Stays _ _ ([[(b2, .cells ⟨[.int .i64 kind, .slice (some ⟨b', off', none⟩) rn rc', .slice ka' kn kc']⟩ 110 (0, 0))], [(b1, .cells ⟨[.int .i64 kind, .slice (some ⟨b, off, none⟩) rn rc, .slice ka kn kc]⟩ 110 (0, 0))]])) (stays_of (hT := tk) (Hp.le_refl _)) ?_
            all_goals refine rFa 0 ?_
            all_goals refine rFull ?_
            all_goals refine rLd 1 ?_
            all_goals refine rMv 2 ?_
            all_goals refine rIa 3 ?_
            all_goals refine rLd 4 ?_
            all_goals refine rFa 5 ?_
            all_goals refine rLd 6 ?_
            all_goals refine rMv 7 ?_
            all_goals refine rIa 8 ?_
            all_goals refine rLd 9 ?_
            all_goals refine rCm 10 ?_
            all_goals refine rDone ?_
            repeat' (first | (refine i_op ?_; first | (refine i_qq ?_; refine qQ ?_) | refine qEf ?_) | refine tl_nil ?_ | (refine i_tc ?_; refine qTc ?_) | (refine i_te ?_; refine qTe ?_) | intro _)
            exact qE ⟨rfl, rfl, rfl⟩
        · have hk2 : k = rn := by omega
          subst hk2
          rw [List.take_of_length_le (by omega), List.take_of_length_le (by omega)] at hpre
          subst hpre
          repeat' (first | (refine i_op ?_; first | (refine i_qq ?_; refine qQ ?_) | refine qEf ?_) | refine tl_nil ?_ | (refine i_tc ?_; refine qTc ?_) | (refine i_te ?_; refine qTe ?_) | intro _)
          refine tc_loop_g [(2, _), (3, _), (4, _), (50, _)] (fun (ζ : (Nat)) => [(51, .int .i64 ζ)]) (fun (ζ : (Nat)) => ρ) (fun (ζ : (Nat)) => [[(b2, .cells ⟨[.int .i64 kind, .slice ra' k rc', .slice ka' kn kc']⟩ 110 (0, 0))], [(b1, .cells ⟨[.int .i64 kind, .slice ra k rc, .slice ka kn kc]⟩ 110 (0, 0))]]) (fun (ζ : (Nat)) => ζ ≤ kn ∧ kids.take ζ = kids'.take ζ) (fun (ζ : (Nat)) => kn - ζ) (0) (⟨Nat.zero_le _, rfl⟩) ev_le ev_le rfl tk ?_
          rintro j hI
          try simp only [List.cons_append, List.nil_append, List.append_assoc, List.append_eq] at hI ⊢
          try dsimp only at hI ⊢
          obtain ⟨hj0, hpre⟩ := hI
          by_cases hlj : j < kn
          · obtain ⟨b, off, C, T, fr, rfl, hb, hfit, hc⟩ := hk.get (show j < kids.length by omega)
            obtain ⟨b', off', C', T', fr', rfl, hb', hfit', hc'⟩ := hk'.get (show j < kids'.length by omega)
            have ht1 := List.take_succ_eq_append_getElem (show j < kids.length by omega)
            have ht2 := List.take_succ_eq_append_getElem (show j < kids'.length by omega)
            have hf : kids = kids' → kids[j]'(by omega) = kids'[j]'(by omega) := fun e => by subst e; rfl
            generalize kids[j]'(by omega) = x at *
            generalize kids'[j]'(by omega) = y at *
            by_cases he : x = y
            · have hd : decide (x = y) = true := decide_eq_true he
              repeat' (first | (refine i_op ?_; first | (refine i_qq ?_; refine qQ ?_) | refine qEf ?_) | refine tl_nil ?_ | (refine i_tc ?_; refine qTc ?_) | (refine i_te ?_; refine qTe ?_) | intro _)
              refine tc_any (Stays _ _ ([[(b2, .cells ⟨[.int .i64 kind, .slice ra' k rc', .slice (some ⟨b', off', none⟩) kn kc']⟩ 110 (0, 0))], [(b1, .cells ⟨[.int .i64 kind, .slice ra k rc, .slice (some ⟨b, off, none⟩) kn kc]⟩ 110 (0, 0))]])) (stays_of (hT := tk) (Hp.le_refl _)) ?_
              all_goals refine rFa 0 ?_
              all_goals refine rFull ?_
              all_goals refine rLd 1 ?_
              all_goals refine rMv 2 ?_
              all_goals refine rIa 3 ?_
              all_goals refine rLd 4 ?_
              all_goals refine rFa 5 ?_
              all_goals refine rLd 6 ?_
              all_goals refine rMv 7 ?_
              all_goals refine rIa 8 ?_
              all_goals refine rLd 9 ?_
              all_goals refine rCm 10 ?_
              all_goals refine rDone ?_
              repeat' (first | (refine i_op ?_; first | (refine i_qq ?_; refine qQ ?_) | refine qEf ?_) | refine tl_nil ?_ | (refine i_tc ?_; refine qTc ?_) | (refine i_te ?_; refine qTe ?_) | intro _)
              refine te_round_g (j + 1) (⟨hlj, by rw [ht1, ht2, hpre, he]⟩) ev_le ev_le rfl tk inferInstance (by first | omega | (dsimp only; omega))
            · have hd : decide (x = y) = false := decide_eq_false he
              rw [decide_eq_false (fun e => he (hf e.2.2))]
              repeat' (first | (refine i_op ?_; first | (refine i_qq ?_; refine qQ ?_) | refine qEf ?_) | refine tl_nil ?_ | (refine i_tc ?_; refine qTc ?_) | (refine i_te ?_; refine qTe ?_) | intro _)
              refine tc_any (Stays _ _ ([[(b2, .cells ⟨[.int .i64 kind, .slice ra' k rc', .slice (some ⟨b', off', none⟩) kn kc']⟩ 110 (0, 0))], [(b1, .cells ⟨[.int .i64 kind, .slice ra k rc, .slice (some ⟨b, off, none⟩) kn kc]⟩ 110 (0, 0))]])) (stays_of (hT := tk) (Hp.le_refl _)) ?_
              all_goals refine rFa 0 ?_
              all_goals refine rFull ?_
              all_goals refine rLd 1 ?_
              all_goals refine rMv 2 ?_
              all_goals refine rIa 3 ?_
              all_goals refine rLd 4 ?_
              all_goals refine rFa 5 ?_
              all_goals refine rLd 6 ?_
              all_goals refine rMv 7 ?_
              all_goals refine rIa 8 ?_
              all_goals refine rLd 9 ?_
              all_goals refine rCm 10 ?_
              all_goals refine rDone ?_
              repeat' (first | (refine i_op ?_; first | (refine i_qq ?_; refine qQ ?_) | refine qEf ?_) | refine tl_nil ?_ | (refine i_tc ?_; refine qTc ?_) | (refine i_te ?_; refine qTe ?_) | intro _)
              exact qE ⟨rfl, rfl, rfl⟩
          · have hj2 : j = kn := by omega
            subst hj2
            rw [List.take_of_length_le (by omega), List.take_of_length_le (by omega)] at hpre
            subst hpre
            rw [decide_eq_true ⟨trivial, trivial, rfl⟩]
            repeat' (first | (refine i_op ?_; first | (refine i_qq ?_; refine qQ ?_) | refine qEf ?_) | refine tl_nil ?_ | (refine i_tc ?_; refine qTc ?_) | (refine i_te ?_; refine qTe ?_) | intro _)
            exact qE ⟨rfl, rfl, rfl⟩
      · rw [decide_eq_false (fun e => h3 (by rw [← hkn, ← hkn', e.2.2]))]
        repeat' (first | (refine i_op ?_; first | (refine i_qq ?_; refine qQ ?_) | refine qEf ?_) | refine tl_nil ?_ | (refine i_tc ?_; refine qTc ?_) | (refine i_te ?_; refine qTe ?_) | intro _)
        exact qE ⟨rfl, rfl, rfl⟩
    · rw [decide_eq_false (fun e => h2 (by rw [← hrn, ← hrn', e.2.1]))]
      repeat' (first | (refine i_op ?_; first | (refine i_qq ?_; refine qQ ?_) | refine qEf ?_) | refine tl_nil ?_ | (refine i_tc ?_; refine qTc ?_) | (refine i_te ?_; refine qTe ?_) | intro _)
      exact qE ⟨rfl, rfl, rfl⟩
  · rw [decide_eq_false (fun e => h1 e.1)]
    repeat' (first | (refine i_op ?_; first | (refine i_qq ?_; refine qQ ?_) | refine qEf ?_) | refine tl_nil ?_ | (refine i_tc ?_; refine qTc ?_) | (refine i_te ?_; refine qTe ?_) | intro _)
    exact qE ⟨rfl, rfl, rfl⟩
end Go.Proofs.E

namespace Go.Proofs.E
open Go
set_option linter.unusedVariables false
set_option linter.unusedSimpArgs false
set_option linter.unusedSectionVars false
set_option maxRecDepth 4000
set_option maxHeartbeats 1000000
attribute [local irreducible] Yl TL TC TE Spec YSpec R1 Hp.le EnvLe TS TR YS Stays
section
variable {x : Cx} {Q : Exit → Act → World → Prop} {E : Env} {ρ : Hp} {L L1 : SH} {ops : Array Oper} {rest : List Oper} {ty : TypeId} {pos : String} {af : Array Edge}
/-- read bytes, appended to own ones -/
theorem tl_appS {d t e m cx : Nat} {s y : Operand} {v : Value} {X Y : List UInt8} {sp : List Value} {a : Option Addr} [hS : TySlice x.P t e] [hZ : TySz x.P e 1] [hB : TyBytes x.P e 1] [hz : TyZero x.P e (.int .u8 0)]
    (hs : ev E s = some v) (hy : ev E y = some (.slice a m cx)) (hown : OwnS v X.length (X.map u8c) sp 1) (hsr : SIn ρ u8c a m Y) (hb : X.length + Y.length ≤ 100000) (hd : Nat.blt d x.N = true)
    (k : ∀ va vc sp', OwnS (.slice va (X ++ Y).length vc) (X ++ Y).length ((X ++ Y).map u8c) sp' 1 → TL x ops rest Q ((d, .slice va (X ++ Y).length vc) :: E) ρ (ownC (.slice va (X ++ Y).length vc) ((X ++ Y).map u8c) sp' e :: L1)) (hR : Rem (ownC v (X.map u8c) sp e) L L1 := by infer_instance) :
    TL x ops (⟨some d, .call { callee := .builtin .append, args := #[s, y], argTypes := #[t, t] }, ty, pos, af, none⟩ :: rest) Q E ρ L := by
  have hl := hsr.len
  refine tl_app (ys := Y.map u8c) (sz := 1) (by' := 1) hs hy hown (hR := hR) (SIn.srcV hsr) (by simpa using hl) (u8c_one _) (by decide) rfl (by omega) (by omega) hd (fun v' sp' h' => ?_)
  rw [← List.map_append] at h' ⊢
  rw [show X.length + m = (X ++ Y).length by rw [List.length_append, hl]] at h'
  obtain ⟨va, vc, rfl, _⟩ := h'.slice
  exact k va vc sp' h'
theorem tl_appL {d t e cx : Nat} {s y : Operand} {v : Value} {X : List UInt8} {b : UInt8} {sp : List Value} {a : Option Addr} [hS : TySlice x.P t e] [hZ : TySz x.P e 1] [hB : TyBytes x.P e 1] [hz : TyZero x.P e (.int .u8 0)]
    (hs : ev E s = some v) (hy : ev E y = some (.slice a 1 cx)) (hown : OwnS v X.length (X.map u8c) sp 1) (hsr : SrcV x ρ L1 a [u8c b]) (hb : X.length + 1 ≤ 100000) (hd : Nat.blt d x.N = true)
    (k : ∀ va vc sp', OwnS (.slice va (X ++ [b]).length vc) (X ++ [b]).length ((X ++ [b]).map u8c) sp' 1 → TL x ops rest Q ((d, .slice va (X ++ [b]).length vc) :: E) ρ (ownC (.slice va (X ++ [b]).length vc) ((X ++ [b]).map u8c) sp' e :: L1)) (hR : Rem (ownC v (X.map u8c) sp e) L L1 := by infer_instance) :
    TL x ops (⟨some d, .call { callee := .builtin .append, args := #[s, y], argTypes := #[t, t] }, ty, pos, af, none⟩ :: rest) Q E ρ L := by
  refine tl_app (ys := [u8c b]) (sz := 1) (by' := 1) (m := 1) hs hy hown (hR := hR) hsr rfl rfl (by decide) rfl (by omega) (by omega) hd (fun v' sp' h' => ?_)
  rw [show X.map u8c ++ [u8c b] = (X ++ [b]).map u8c by simp] at h' ⊢
  rw [show X.length + 1 = (X ++ [b]).length by simp] at h'
  obtain ⟨va, vc, rfl, _⟩ := h'.slice
  exact k va vc sp' h'
end
end Go.Proofs.E

namespace Go.Proofs.E
open Go
set_option linter.unusedVariables false
set_option linter.unusedSimpArgs false
set_option linter.unusedSectionVars false
set_option maxRecDepth 4000
set_option maxHeartbeats 1000000
attribute [local irreducible] Yl TL TC TE Spec YSpec R1 Hp.le EnvLe TS TR YS Stays
-- BN
/-! ## the document's bytes -/
theorem be_take_succ (n x j : Nat) (h : j < n) : (be n x).take (j + 1) = (be n x).take j ++ [UInt8.ofNat (x / 256 ^ (n - 1 - j))] := by
  induction n generalizing j with
  | zero => omega
  | succ n ih =>
    rw [be]
    cases j with
    | zero => simp
    | succ j =>
      rw [List.take_succ_cons, List.take_succ_cons, ih j (by omega)]
      simp only [List.cons_append]
      rw [show n - 1 - j = n + 1 - 1 - (j + 1) by omega]
theorem high_spec (ρ : Hp) (z : Int) (n : Nat) (h0 : 0 ≤ z) (hz : z < 18446744073709551616) (hn : n ≤ 8) :
    Spec Tryz.prog 113 [.int .u64 z, .int .i64 n] ρ [] (fun v ρ' L' => ρ.le ρ' ∧ ∃ a c, v = .slice a n c ∧ n ≤ c ∧ SIn ρ' u8c a n (be n z.toNat) ∧ L' = []) := by
  obtain ⟨x, rfl⟩ : ∃ x : Nat, z = x := ⟨z.toNat, by omega⟩
  simp only [Int.toNat_natCast]
  refine spec_enter Tryz.func113 rfl rfl rfl fun u R => ?_
  simp only [argsE, List.cons_append, List.nil_append]
  repeat' (first | (refine iBu ?_; refine tl_y (y_buildN rfl) rfl rfl ?_) | (refine i_op ?_; first | (refine i_qq ?_; refine qQ ?_) | refine qEf ?_) | refine tl_nil ?_ | (refine i_tc ?_; refine qTc ?_) | (refine i_te ?_; refine qTe ?_) | intro _)
  rw [show ((n : Int) - 1) = (n : Int) - 1 - ((0 : Nat) : Int) by omega]
  refine tc_loop_g [(0, _), (4, _)] (fun (ζ : (Nat) × (Value) × (List Value)) => [(6, .int .i64 ((n : Int) - 1 - (ζ.1 : Int))), (5, ζ.2.1)]) (fun (ζ : (Nat) × (Value) × (List Value)) => ρ) (fun (ζ : (Nat) × (Value) × (List Value)) => [ownC ζ.2.1 (((be n x).take ζ.1).map u8c) ζ.2.2 5]) (fun (ζ : (Nat) × (Value) × (List Value)) => ζ.1 ≤ n ∧ OwnS ζ.2.1 ζ.1 (((be n x).take ζ.1).map u8c) ζ.2.2 1) (fun (ζ : (Nat) × (Value) × (List Value)) => n - ζ.1) ((0, .slice none 0 0, [])) (⟨Nat.zero_le _, OwnS.nil 1⟩) ev_le ev_le rfl tk ?_
  rintro ⟨j, v, sp⟩ hI
  try simp only [List.cons_append, List.nil_append, List.append_assoc, List.append_eq] at hI ⊢
  try dsimp only at hI ⊢
  obtain ⟨hj, hown⟩ := hI
  by_cases hj8 : j < n
  · have hsh := shr_byte x (n - 1 - j)
    have hts := be_take_succ n x j hj8
    have hxx : ((be n x).take j).map u8c ++ [u8c (UInt8.ofNat (x / 256 ^ (n - 1 - j)))] = ((be n x).take (j + 1)).map u8c := by rw [hts]; simp
    obtain ⟨va, vc, rfl, _⟩ := hown.slice
    repeat' (first | (refine iSr ?_; refine tl_y (y_shr (c := 8 * (n - 1 - j)) rfl rfl (by omega) (by simp only [IntKind.bits]; omega)) rfl rfl ?_) | (refine iCv ?_; refine tl_y (y_conv (k := .u8) rfl) rfl rfl ?_; rw [hsh]) | (refine tl_buildSlice_s rfl rfl rfl rfl (by simp) rfl rfl (fun _ => ?_)) | (refine tl_app (ys := [u8c (UInt8.ofNat (x / 256 ^ (n - 1 - j)))]) (m := 1) rfl rfl hown (hR := by infer_instance) SrcV.lit rfl rfl (by decide) rfl (by omega) (by omega) rfl (fun v2 sp2 hown2 => ?_); rw [hxx] at hown2 ⊢) | (refine iBu ?_; refine tl_y (y_buildN rfl) rfl rfl ?_) | (refine i_op ?_; first | (refine i_qq ?_; refine qQ ?_) | refine qEf ?_) | refine tl_nil ?_ | (refine i_tc ?_; refine qTc ?_) | (refine i_te ?_; refine qTe ?_) | intro _)
    have e7 : ((n : Int) - 1 - (j : Int) - 1) = (n : Int) - 1 - ((j + 1 : Nat) : Int) := by omega
    rw [e7]
    refine te_round_g (j + 1, v2, sp2) (⟨hj8, hown2⟩) ev_le ev_le rfl tk inferInstance (by first | omega | (dsimp only; omega))
  · obtain rfl : j = n := by omega
    rw [show (be j x).take j = be j x from List.take_of_length_le (by rw [be_length]; exact Nat.le_refl _)] at hown ⊢
    obtain ⟨va, vc, rfl, _⟩ := hown.slice
    repeat' (first | (refine iBu ?_; refine tl_y (y_buildN rfl) rfl rfl ?_) | (refine i_op ?_; first | (refine i_qq ?_; refine qQ ?_) | refine qEf ?_) | refine tl_nil ?_ | (refine i_tc ?_; refine qTc ?_) | (refine i_te ?_; refine qTe ?_) | intro _)
    refine te_freeze (ownC (.slice va j vc) ((be j x).map u8c) sp 5) (fun ρ3 hle3 hfz => ?_)
    obtain ⟨a3, c3, e3, hc3, hs3⟩ := hown.sIn hfz
    cases e3
    exact qE ⟨hle3, va, vc, rfl, hc3, hs3, rfl⟩
end Go.Proofs.E

namespace Go.Proofs.E
open Go
set_option linter.unusedVariables false
set_option linter.unusedSimpArgs false
set_option linter.unusedSectionVars false
set_option maxRecDepth 4000
set_option maxHeartbeats 1000000
attribute [local irreducible] Yl TL TC TE Spec YSpec R1 Hp.le EnvLe TS TR YS Stays
-- BN
theorem stepped_spec (ρ : Hp) (s : Stp) (hs : stepOk s = true) (hf : RowFit s.row) :
    Spec Tryz.prog 115 [.agg ⟨stpV s⟩] ρ [] (fun v ρ' L' => ρ.le ρ' ∧ ∃ a c, v = .slice a (stpB s).length c ∧ (stpB s).length ≤ c ∧ SIn ρ' u8c a (stpB s).length (stpB s) ∧ L' = []) := by
  obtain ⟨hk4, hr23, hkt⟩ := step_kinds hs
  have hid := hf.id
  have hkB := tB_eq (t := s.kind) (by omega) (by omega)
  refine spec_enter Tryz.func115 rfl rfl rfl fun u R => ?_
  simp only [argsE, List.cons_append, List.nil_append]
  by_cases h23 : s.kind = 2 ∨ s.kind = 3
  · have hst : stpB s = [tB s.kind] ++ rowB s.row := by unfold stpB; rw [if_pos h23]; rfl
    have hrr := fun ρ => rowR6_spec ρ s.row (hr23 h23) hid
    have hrl := rowB_le (hr23 h23)
    rcases h23 with e | e
    all_goals (repeat' (first | (refine tl_buildSlice_s rfl rfl rfl rfl (by simp) rfl rfl (fun bs => ?_); simp only [hkB]) | (refine iBu ?_; refine tl_y (y_buildN rfl) rfl rfl ?_) | (refine i_op ?_; first | (refine i_qq ?_; refine qQ ?_) | refine qEf ?_) | refine tl_nil ?_ | (refine i_tc ?_; refine qTc ?_) | (refine i_te ?_; refine qTe ?_) | intro _))
    all_goals rename_i b1
    all_goals rw [show ([(bs, Obj.cells ⟨[u8c (tB s.kind)]⟩ 5 (0, 0))] : List (Nat × Obj)) = ownC (.slice (some ⟨bs, 0, none⟩) 1 1) ([tB s.kind].map u8c) [] 5 from rfl]
    all_goals have hown : OwnB (.slice (some ⟨bs, 0, none⟩) 1 1) [tB s.kind] [] := ⟨.inr ⟨bs, 1, rfl, rfl, rfl, Nat.le_refl _⟩⟩
    all_goals generalize Value.slice (some ⟨bs, 0, none⟩) 1 1 = w0 at *
    all_goals obtain ⟨X0, hX0⟩ : ∃ X0, [tB s.kind] = X0 := ⟨_, rfl⟩
    all_goals have hX0l : X0.length = 1 := by rw [← hX0]; rfl
    all_goals rw [hX0] at hown ⊢
    all_goals obtain ⟨va, vc, rfl, _⟩ := hown.slice
    all_goals (repeat' (first | (refine tl_is (.func 201) ?_; refine qC rfl rfl (hrr _) ?_; rintro v2 ρ2 L2 hle0 ⟨hle2, sp2, hown2, rfl⟩; simp only [List.cons_append, List.nil_append]; refine tl_freeze _ (h := Rem.here) (fun ρ3 hle3 hfz => ?_); obtain ⟨a3, c3, rfl, hc3, hs3⟩ := hown2.sIn hfz; clear hfz) | (refine tl_appS (Y := rowB s.row) rfl rfl hown (by first | exact hs3 | exact SIn.mono hs3 (by assumption)) (by (try simp [be_length]) <;> omega) rfl (fun va vc sp' hown => ?_)) | (refine iBu ?_; refine tl_y (y_buildN rfl) rfl rfl ?_) | (refine i_op ?_; first | (refine i_qq ?_; refine qQ ?_) | refine qEf ?_) | refine tl_nil ?_ | (refine i_tc ?_; refine qTc ?_) | (refine i_te ?_; refine qTe ?_) | intro _))
    all_goals rw [hst, hX0]
    all_goals (refine te_freeze (bytC (.slice va (X0 ++ rowB s.row).length vc) (X0 ++ rowB s.row) sp') (h := by repeat (first | exact rem_here' | apply rem_there')) (fun ρ6 hle6 hfz => ?_))
    all_goals obtain ⟨a6, c6, e6, hc6, hs6⟩ := hown.sIn hfz
    all_goals cases e6
    all_goals exact qE (L' := []) ⟨Hp.le_trans hle2 (Hp.le_trans hle3 hle6), va, vc, rfl, hc6, hs6, rfl⟩
  · have hkt := hkt h23
    have htB := tB_eq (t := s.row.t) (by omega) (by omega)
    have hst : stpB s = [tB s.kind] ++ [tB s.row.t] ++ be 2 s.row.id ++ (if s.kind = 1 then be 8 (vN s.by') else []) := by unfold stpB; rw [if_neg h23]; simp
    have hvl := vN_lt s.by'
    repeat' (first | (refine tl_buildSlice_s rfl rfl rfl rfl (by simp) rfl rfl (fun bs => ?_); simp only [hkB]) | (refine iBu ?_; refine tl_y (y_buildN rfl) rfl rfl ?_) | (refine i_op ?_; first | (refine i_qq ?_; refine qQ ?_) | refine qEf ?_) | refine tl_nil ?_ | (refine i_tc ?_; refine qTc ?_) | (refine i_te ?_; refine qTe ?_) | intro _)
    rename_i b1
    rw [show ([(bs, Obj.cells ⟨[u8c (tB s.kind)]⟩ 5 (0, 0))] : List (Nat × Obj)) = ownC (.slice (some ⟨bs, 0, none⟩) 1 1) ([tB s.kind].map u8c) [] 5 from rfl]
    have hown : OwnB (.slice (some ⟨bs, 0, none⟩) 1 1) [tB s.kind] [] := ⟨.inr ⟨bs, 1, rfl, rfl, rfl, Nat.le_refl _⟩⟩
    generalize Value.slice (some ⟨bs, 0, none⟩) 1 1 = w0 at *
    obtain ⟨X0, hX0⟩ : ∃ X0, [tB s.kind] = X0 := ⟨_, rfl⟩
    have hX0l : X0.length = 1 := by rw [← hX0]; rfl
    rw [hX0] at hown ⊢
    obtain ⟨va, vc, rfl, _⟩ := hown.slice
    repeat' (first | (refine iBu ?_; refine tl_y (y_buildN rfl) rfl rfl ?_) | (refine i_op ?_; first | (refine i_qq ?_; refine qQ ?_) | refine qEf ?_) | refine tl_nil ?_ | (refine i_tc ?_; refine qTc ?_) | (refine i_te ?_; refine qTe ?_) | intro _)
    refine tc_cut_k R [] (fun (ζ : (Hp) × (Value) × (List Value)) => [(1, .pointer (some ⟨b1, 0, none⟩)), (2, .slice none 0 0), (3, ζ.2.1)]) (fun (ζ : (Hp) × (Value) × (List Value)) => ζ.1) (fun (ζ : (Hp) × (Value) × (List Value)) => [bytC ζ.2.1 (X0 ++ [tB s.row.t] ++ be 2 s.row.id) ζ.2.2, [(b1, .cells ⟨stpV s⟩ 103 (0, 0))]]) (fun (ζ : (Hp) × (Value) × (List Value)) => ρ.le ζ.1 ∧ OwnB ζ.2.1 (X0 ++ [tB s.row.t] ++ be 2 s.row.id) ζ.2.2) ev_le ?_ ?_
    · refine tc_any (Stays _ _ ([[(b1, .cells ⟨stpV s⟩ 103 (0, 0))]])) (stays_of (hT := tk) (Hp.le_refl _)) ?_
      all_goals refine rMv 0 ?_
      all_goals refine rFa 1 ?_
      all_goals refine rFa 2 ?_
      all_goals refine rFa 3 ?_
      all_goals refine rLd 4 ?_
      all_goals refine rCv 5 ?_
      all_goals refine rFa 8 ?_
      all_goals refine rFa 9 ?_
      all_goals refine rFa 10 ?_
      all_goals refine rLd 11 ?_
      all_goals refine rCv 12 ?_
      all_goals (refine rStep (i := 6) ?_; ((try refine qWant ?_); (first | (refine tl_buildSlice_s rfl rfl rfl rfl (by simp) rfl rfl (fun bs => ?_); simp only [htB]) | (refine qEf ?_; try intro _)) <;> ((try simp only [kM, kN, kO]); refine tl_nil ?_; refine rNext ?_)))
      all_goals (refine rStep (i := 7) ?_; ((try refine qWant ?_); (first | (refine tl_appL (b := tB s.row.t) rfl rfl hown SrcV.lit (by (try simp [be_length]) <;> omega) rfl (fun va vc sp' hown => ?_)) | (refine tl_appS (Y := be 2 s.row.id) rfl rfl hown (by first | exact hs2 | exact SIn.mono hs2 (by assumption)) (by (try simp [be_length]) <;> omega) rfl (fun va vc sp' hown => ?_)) | (refine qEf ?_; try intro _)) <;> ((try simp only [kM, kN, kO]); refine tl_nil ?_; refine rNext ?_)))
      all_goals (refine rStep (i := 13) ?_; ((try refine qWant ?_); (first | (refine tl_is (.func 113) ?_; refine qC rfl rfl (high_spec _ (s.row.id : Int) 2 (by omega) (by omega) (by decide)) ?_; rintro v ρ' L' hle ⟨hl2, a2, c2, rfl, hc2, hs2, rfl⟩ <;> (try simp only [kM, kN, kO]); (simp only [Int.toNat_natCast] at hs2)) | (refine qEf ?_; try intro _)) <;> ((try simp only [kM, kN, kO]); refine tl_nil ?_; refine rNext ?_)))
      all_goals (refine rStep (i := 14) ?_; ((try refine qWant ?_); (first | (refine tl_appL (b := tB s.row.t) rfl rfl hown SrcV.lit (by (try simp [be_length]) <;> omega) rfl (fun va vc sp' hown => ?_)) | (refine tl_appS (Y := be 2 s.row.id) rfl rfl hown (by first | exact hs2 | exact SIn.mono hs2 (by assumption)) (by (try simp [be_length]) <;> omega) rfl (fun va vc sp' hown => ?_)) | (refine qEf ?_; try intro _)) <;> ((try simp only [kM, kN, kO]); refine tl_nil ?_; refine rNext ?_)))
      all_goals refine rFull ?_
      all_goals refine rAs 15 ?_
      all_goals refine rDone ?_
      all_goals refine te_cut_g ((_, _, _)) (⟨hl2, hown⟩) ev_le ev_le rfl tk inferInstance
    · rintro ⟨ρ1, w, sp⟩ ⟨hle1, hown⟩
      simp only [List.cons_append, List.nil_append] at hle1 ⊢
      dsimp only at hown
      obtain ⟨va, vc, rfl, _⟩ := hown.slice
      by_cases h1 : s.kind = 1
      · rw [if_pos h1] at hst
        repeat' (first | (simp only [vN_eq]; refine tl_is (.func 113) ?_; refine qC rfl rfl (high_spec _ (vN s.by' : Int) 8 (by omega) (by omega) (by decide)) ?_; rintro v3 ρ3 L3 hle0 ⟨hl3, a3, c3, rfl, hc3, hs3, rfl⟩; simp only [Int.toNat_natCast] at hs3; simp only [List.cons_append, List.nil_append]) | (refine tl_appS (Y := be 8 (vN s.by')) rfl rfl hown (by first | exact hs3 | exact SIn.mono hs3 (by assumption)) (by (try simp [be_length]) <;> omega) rfl (fun va vc sp' hown => ?_)) | (refine iBu ?_; refine tl_y (y_buildN rfl) rfl rfl ?_) | (refine i_op ?_; first | (refine i_qq ?_; refine qQ ?_) | refine qEf ?_) | refine tl_nil ?_ | (refine i_tc ?_; refine qTc ?_) | (refine i_te ?_; refine qTe ?_) | intro _)
        rw [hst, hX0]
        refine te_freeze (bytC (.slice va (X0 ++ [tB s.row.t] ++ be 2 s.row.id ++ be 8 (vN s.by')).length vc) (X0 ++ [tB s.row.t] ++ be 2 s.row.id ++ be 8 (vN s.by')) sp') (h := by repeat (first | exact rem_here' | apply rem_there')) (fun ρ6 hle6 hfz => ?_)
        obtain ⟨a6, c6, e6, hc6, hs6⟩ := hown.sIn hfz
        cases e6
        exact qE (L' := []) ⟨Hp.le_trans hle1 (Hp.le_trans hl3 hle6), va, vc, rfl, hc6, hs6, rfl⟩
      · rw [if_neg h1, List.append_nil] at hst
        repeat' (first | (refine iBu ?_; refine tl_y (y_buildN rfl) rfl rfl ?_) | (refine i_op ?_; first | (refine i_qq ?_; refine qQ ?_) | refine qEf ?_) | refine tl_nil ?_ | (refine i_tc ?_; refine qTc ?_) | (refine i_te ?_; refine qTe ?_) | intro _)
        rw [hst, hX0]
        refine te_freeze (bytC (.slice va (X0 ++ [tB s.row.t] ++ be 2 s.row.id).length vc) (X0 ++ [tB s.row.t] ++ be 2 s.row.id) sp) (h := by repeat (first | exact rem_here' | apply rem_there')) (fun ρ6 hle6 hfz => ?_)
        obtain ⟨a6, c6, e6, hc6, hs6⟩ := hown.sIn hfz
        cases e6
        exact qE (L' := []) ⟨Hp.le_trans hle1 hle6, va, vc, rfl, hc6, hs6, rfl⟩
end Go.Proofs.E

namespace Go.Proofs.E
open Go
set_option linter.unusedVariables false
set_option linter.unusedSimpArgs false
set_option linter.unusedSectionVars false
set_option maxRecDepth 4000
set_option maxHeartbeats 1000000
attribute [local irreducible] Yl TL TC TE Spec YSpec R1 Hp.le EnvLe TS TR YS Stays
-- BN
theorem highN_spec (ρ : Hp) (x : Nat) (n : Nat) (hz : x < 18446744073709551616) (hn : n ≤ 8) :
    Spec Tryz.prog 113 [.int .u64 (x : Int), .int .i64 n] ρ [] (fun v ρ' L' => ρ.le ρ' ∧ ∃ a c, v = .slice a n c ∧ n ≤ c ∧ SIn ρ' u8c a n (be n x) ∧ L' = []) := by
  have := high_spec ρ (x : Int) n (by omega) (by omega) hn
  rwa [Int.toNat_natCast] at this
theorem bytes12_spec (ρ : Hp) (v : RV) (r : Rc) (h : RcIn ρ v r) (hL : LayOk r) :
    Spec Tryz.prog 31 [.agg ⟨recV v r⟩] ρ [] (fun z ρ' L' => ρ.le ρ' ∧ ∃ a c, z = .slice a (recB r).length c ∧ (recB r).length ≤ c ∧ SIn ρ' u8c a (recB r).length (recB r) ∧ L' = []) := by
  have g1 := hL.kind
  have g2 := hL.lsn
  have g3 := hL.txn
  have g4 := hL.next
  have g5 := hL.nextTxn
  have g6 := hL.prev
  have hkB := tB_eq (t := r.kind) (by omega) (by omega)
  have hil := h.i.at'.len
  have hsl := h.s.at'.len
  have htl := h.t.at'.len
  have hdl := h.d.at'.len
  have li := hL.il
  have ls := hL.sl
  have lt' := hL.tl
  have ld := hL.dl
  have hbi := lenB (n := v.i.n) (by omega)
  have hbs := lenB (n := v.s.n) (by omega)
  have hbt := lenB (n := v.t.n) (by omega)
  have hbd := lenB (n := v.d.n) (by omega)
  refine spec_enter Tryz.func31 rfl rfl rfl fun u R => ?_
  simp only [argsE, List.cons_append, List.nil_append]
  obtain ⟨X0, hX0⟩ : ∃ X0, [tB r.kind] = X0 := ⟨_, rfl⟩
  have hX0l : X0.length = 1 := by rw [← hX0]; rfl
  repeat' (first | (refine iBu ?_; refine tl_y (y_buildN rfl) rfl rfl ?_) | (refine i_op ?_; first | (refine i_qq ?_; refine qQ ?_) | refine qEf ?_) | refine tl_nil ?_ | (refine i_tc ?_; refine qTc ?_) | (refine i_te ?_; refine qTe ?_) | intro _)
  rename_i rb
  refine tc_cut_k R [] (fun (ζ : (Hp) × (Value) × (List Value)) => [(1, .pointer (some ⟨rb, 0, none⟩)), (2, .slice none 0 0), (3, ζ.2.1)]) (fun (ζ : (Hp) × (Value) × (List Value)) => ζ.1) (fun (ζ : (Hp) × (Value) × (List Value)) => [bytC ζ.2.1 (X0 ++ be 8 r.lsn) ζ.2.2, [(rb, .cells ⟨recV v r⟩ 30 (0, 0))]]) (fun (ζ : (Hp) × (Value) × (List Value)) => ρ.le ζ.1 ∧ OwnB ζ.2.1 (X0 ++ be 8 r.lsn) ζ.2.2) ev_le ?_ ?_
  · refine tc_any (Stays _ _ ([[(rb, .cells ⟨recV v r⟩ 30 (0, 0))]])) (stays_of (hT := tk) (Hp.le_refl _)) ?_
    all_goals refine rFa 0 ?_
    all_goals refine rLd 1 ?_
    all_goals refine rCv 2 ?_
    all_goals refine rFa 4 ?_
    all_goals refine rLd 5 ?_
    all_goals (refine rStep2 (i := 3) (j := 6) ?_ ?_ <;> ((try refine qWant ?_); (first | (refine tl_buildSlice_s rfl rfl rfl rfl (by simp) rfl rfl (fun bs => ?_); simp only [hkB]; rw [show ([(bs, Obj.cells ⟨[u8c (tB r.kind)]⟩ 5 (0, 0))] : List (Nat × Obj)) = ownC (.slice (some ⟨bs, 0, none⟩) 1 1) ([tB r.kind].map u8c) [] 5 from rfl]; have hown : OwnB (.slice (some ⟨bs, 0, none⟩) 1 1) [tB r.kind] [] := ⟨.inr ⟨bs, 1, rfl, rfl, rfl, Nat.le_refl _⟩⟩; rw [hX0] at hown ⊢) | (refine tl_is (.func 113) ?_; refine qC rfl rfl (highN_spec _ (r.lsn) 8 (by omega) (by decide)) ?_; rintro v ρ' L' hle ⟨hl1, a1, c1, rfl, hc1, hs1, rfl⟩ <;> (try simp only [kM, kN, kO])) | (refine qEf ?_; try intro _)) <;> ((try simp only [kM, kN, kO]); refine tl_nil ?_; refine rNext ?_)))
    all_goals (first | (refine rStep (i := 6) ?_; ((try refine qWant ?_); (first | (refine tl_is (.func 113) ?_; refine qC rfl rfl (highN_spec _ (r.lsn) 8 (by omega) (by decide)) ?_; rintro v ρ' L' hle ⟨hl1, a1, c1, rfl, hc1, hs1, rfl⟩ <;> (try simp only [kM, kN, kO])) | (refine qEf ?_; try intro _)) <;> ((try simp only [kM, kN, kO]); refine tl_nil ?_; refine rNext ?_))) | (refine rStep (i := 3) ?_; ((try refine qWant ?_); (first | (refine tl_buildSlice_s rfl rfl rfl rfl (by simp) rfl rfl (fun bs => ?_); simp only [hkB]; rw [show ([(bs, Obj.cells ⟨[u8c (tB r.kind)]⟩ 5 (0, 0))] : List (Nat × Obj)) = ownC (.slice (some ⟨bs, 0, none⟩) 1 1) ([tB r.kind].map u8c) [] 5 from rfl]; have hown : OwnB (.slice (some ⟨bs, 0, none⟩) 1 1) [tB r.kind] [] := ⟨.inr ⟨bs, 1, rfl, rfl, rfl, Nat.le_refl _⟩⟩; rw [hX0] at hown ⊢) | (refine qEf ?_; try intro _)) <;> ((try simp only [kM, kN, kO]); refine tl_nil ?_; refine rNext ?_))))
    all_goals (refine rStep (i := 7) ?_; ((try refine qWant ?_); (first | (refine tl_appS (Y := be 8 r.lsn) rfl rfl hown (by first | exact hs1 | exact SIn.mono hs1 (by assumption)) (by (try simp [be_length]) <;> omega) rfl (fun va vc sp' hown => ?_)) | (refine qEf ?_; try intro _)) <;> ((try simp only [kM, kN, kO]); refine tl_nil ?_; refine rNext ?_)))
    all_goals refine rFull ?_
    all_goals refine rAs 8 ?_
    all_goals refine rDone ?_
    all_goals refine te_cut_g ((_, _, _)) (⟨hl1, hown⟩) ev_le ev_le rfl tk inferInstance
  rintro ⟨ρ1, w, sp⟩ ⟨hle1, hown⟩
  simp only [List.cons_append, List.nil_append] at hle1 ⊢
  dsimp only at hown
  obtain ⟨va, vc, rfl, _⟩ := hown.slice
  refine tc_seq ?_
  refine tc_cut_k R [] (fun (ζ : (Hp) × (Value) × (List Value)) => [(1, .pointer (some ⟨rb, 0, none⟩)), (2, .slice none 0 0), (3, ζ.2.1)]) (fun (ζ : (Hp) × (Value) × (List Value)) => ζ.1) (fun (ζ : (Hp) × (Value) × (List Value)) => [bytC ζ.2.1 (X0 ++ be 8 r.lsn ++ be 4 r.txn.toNat ++ be 8 r.prev) ζ.2.2, [(rb, .cells ⟨recV v r⟩ 30 (0, 0))]]) (fun (ζ : (Hp) × (Value) × (List Value)) => ρ1.le ζ.1 ∧ OwnB ζ.2.1 (X0 ++ be 8 r.lsn ++ be 4 r.txn.toNat ++ be 8 r.prev) ζ.2.2) ev_le ?_ ?_
  · refine tc_any (Stays _ _ ([[(rb, .cells ⟨recV v r⟩ 30 (0, 0))]])) (stays_of (hT := tk) (Hp.le_refl _)) ?_
    all_goals refine rMv 0 ?_
    all_goals refine rFa 1 ?_
    all_goals refine rLd 2 ?_
    all_goals refine rCv 3 ?_
    all_goals refine rFa 6 ?_
    all_goals refine rLd 7 ?_
    all_goals (refine rStep (i := 4) ?_; ((try refine qWant ?_); (first | (refine tl_is (.func 113) ?_; refine qC rfl rfl (high_spec _ (r.txn) 4 (by omega) (by omega) (by decide)) ?_; rintro v ρ' L' hle ⟨hl2, a2, c2, rfl, hc2, hs2, rfl⟩ <;> (try simp only [kM, kN, kO])) | (refine tl_is (.func 113) ?_; refine qC rfl rfl (highN_spec _ (r.prev) 8 (by omega) (by decide)) ?_; rintro v ρ' L' hle ⟨hl3, a3, c3, rfl, hc3, hs3, rfl⟩ <;> (try simp only [kM, kN, kO])) | (refine qEf ?_; try intro _)) <;> ((try simp only [kM, kN, kO]); refine tl_nil ?_; refine rNext ?_)))
    all_goals (refine rStep (i := 5) ?_; ((try refine qWant ?_); (first | (refine tl_appS (Y := be 4 r.txn.toNat) rfl rfl hown (by first | exact hs2 | exact SIn.mono hs2 (by assumption)) (by (try simp [be_length]) <;> omega) rfl (fun va vc sp' hown => ?_)) | (refine tl_appS (Y := be 8 r.prev) rfl rfl hown (by first | exact hs3 | exact SIn.mono hs3 (by assumption)) (by (try simp [be_length]) <;> omega) rfl (fun va vc sp' hown => ?_)) | (refine qEf ?_; try intro _)) <;> ((try simp only [kM, kN, kO]); refine tl_nil ?_; refine rNext ?_)))
    all_goals (refine rStep (i := 8) ?_; ((try refine qWant ?_); (first | (refine tl_is (.func 113) ?_; refine qC rfl rfl (high_spec _ (r.txn) 4 (by omega) (by omega) (by decide)) ?_; rintro v ρ' L' hle ⟨hl2, a2, c2, rfl, hc2, hs2, rfl⟩ <;> (try simp only [kM, kN, kO])) | (refine tl_is (.func 113) ?_; refine qC rfl rfl (highN_spec _ (r.prev) 8 (by omega) (by decide)) ?_; rintro v ρ' L' hle ⟨hl3, a3, c3, rfl, hc3, hs3, rfl⟩ <;> (try simp only [kM, kN, kO])) | (refine qEf ?_; try intro _)) <;> ((try simp only [kM, kN, kO]); refine tl_nil ?_; refine rNext ?_)))
    all_goals (refine rStep (i := 9) ?_; ((try refine qWant ?_); (first | (refine tl_appS (Y := be 4 r.txn.toNat) rfl rfl hown (by first | exact hs2 | exact SIn.mono hs2 (by assumption)) (by (try simp [be_length]) <;> omega) rfl (fun va vc sp' hown => ?_)) | (refine tl_appS (Y := be 8 r.prev) rfl rfl hown (by first | exact hs3 | exact SIn.mono hs3 (by assumption)) (by (try simp [be_length]) <;> omega) rfl (fun va vc sp' hown => ?_)) | (refine qEf ?_; try intro _)) <;> ((try simp only [kM, kN, kO]); refine tl_nil ?_; refine rNext ?_)))
    all_goals refine rFull ?_
    all_goals refine rAs 10 ?_
    all_goals refine rDone ?_
    all_goals refine te_cut_g ((_, _, _)) (⟨Hp.le_trans hl2 hl3, hown⟩) ev_le ev_le rfl tk inferInstance
  rintro ⟨ρ2, w, sp⟩ ⟨hle2, hown⟩
  simp only [List.cons_append, List.nil_append] at hle2 ⊢
  dsimp only at hown
  obtain ⟨H, hH⟩ : ∃ H, X0 ++ be 8 r.lsn ++ be 4 r.txn.toNat ++ be 8 r.prev = H := ⟨_, rfl⟩
  have hHl : H.length = 21 := by rw [← hH]; simp [be_length, hX0l]
  have hHB : H = recHB r := by rw [← hH, ← hX0]; simp [recHB]
  rw [hH] at hown ⊢
  obtain ⟨va, vc, rfl, _⟩ := hown.slice
  have hρ := Hp.le_trans hle1 hle2
  have hNX : r.next < 18446744073709551616 := by omega
  by_cases k3 : r.kind = 3
  · have hfin : recB r = H ++ be 8 r.next := by unfold recB recTB; rw [hHB, if_neg (by omega), if_pos k3]
    rw [hfin]
    repeat' (first | (refine tl_is (.func 113) ?_; refine qC rfl rfl (highN_spec _ (r.next) 8 (by omega) (by decide)) ?_; rintro v ρ' L' hle ⟨hl4, a4, c4, rfl, hc4, hs4, rfl⟩ <;> (try simp only [kM, kN, kO])) | (refine tl_appS (Y := be 8 r.next) rfl rfl hown (by first | exact hs4 | exact SIn.mono hs4 (by assumption)) (by (try simp [be_length]) <;> omega) rfl (fun va vc sp' hown => ?_)) | (refine iBu ?_; refine tl_y (y_buildN rfl) rfl rfl ?_) | (refine i_op ?_; first | (refine i_qq ?_; refine qQ ?_) | refine qEf ?_) | refine tl_nil ?_ | (refine i_tc ?_; refine qTc ?_) | (refine i_te ?_; refine qTe ?_) | intro _)
    refine te_freeze (bytC (.slice va (H ++ be 8 r.next).length vc) (H ++ be 8 r.next) sp') (h := by repeat (first | exact rem_here' | apply rem_there')) (fun ρ6 hle6 hfz => ?_)
    obtain ⟨a6, c6, e6, hc6, hs6⟩ := hown.sIn hfz
    cases e6
    exact qE (L' := []) ⟨Hp.le_trans (Hp.le_trans hρ hl4) hle6, va, vc, rfl, hc6, hs6, rfl⟩
  by_cases k4 : r.kind = 4
  · repeat' (first | (refine tl_is (.func 113) ?_; refine qC rfl rfl (highN_spec _ (r.next) 8 (by omega) (by decide)) ?_; rintro v ρ' L' hle ⟨hl4, a4, c4, rfl, hc4, hs4, rfl⟩ <;> (try simp only [kM, kN, kO])) | (refine tl_appS (Y := be 8 r.next) rfl rfl hown (by first | exact hs4 | exact SIn.mono hs4 (by assumption)) (by (try simp [be_length]) <;> omega) rfl (fun va vc sp' hown => ?_)) | (refine tl_buildSlice_s rfl rfl rfl rfl (by simp) rfl rfl (fun bs => ?_); simp only [hbs]; refine tl_appL (b := UInt8.ofNat v.s.n) rfl rfl hown SrcV.lit (by (try simp [be_length]) <;> omega) rfl (fun va vc sp' hown => ?_)) | (refine iBu ?_; refine tl_y (y_buildN rfl) rfl rfl ?_) | (refine i_op ?_; first | (refine i_qq ?_; refine qQ ?_) | refine qEf ?_) | refine tl_nil ?_ | (refine i_tc ?_; refine qTc ?_) | (refine i_te ?_; refine qTe ?_) | intro _)
    obtain ⟨B, hB⟩ : ∃ B, H ++ be 8 r.next ++ [UInt8.ofNat v.s.n] = B := ⟨_, rfl⟩
    rw [hB] at hown ⊢
    have hBl : B.length = 30 := by rw [← hB]; simp [be_length, hHl]
    have hfin : B ++ r.steps.flatMap stpB = recB r := by rw [← hB]; unfold recB recTB listB; rw [hHB, if_neg (by omega), if_neg (by omega), if_pos k4, hsl]; simp
    have hρ := Hp.le_trans hρ hl4
    rw [show ownC (.slice va B.length vc) (B.map u8c) sp' 5 = ownC (.slice va B.length vc) ((B ++ (r.steps.take 0).flatMap stpB).map u8c) sp' 5 by simp]
    refine tc_loop_g [(1, _), (2, _), (49, _), (97, _), (98, _)] (fun (ζ : (Nat) × (Hp) × (Value) × (List Value)) => [(99, .int .i64 ζ.1), (3, ζ.2.2.1)]) (fun (ζ : (Nat) × (Hp) × (Value) × (List Value)) => ζ.2.1) (fun (ζ : (Nat) × (Hp) × (Value) × (List Value)) => [bytC ζ.2.2.1 (B ++ (r.steps.take ζ.1).flatMap stpB) ζ.2.2.2, [(rb, .cells ⟨recV v r⟩ 30 (0, 0))]]) (fun (ζ : (Nat) × (Hp) × (Value) × (List Value)) => ζ.1 ≤ v.s.n ∧ ρ.le ζ.2.1 ∧ OwnB ζ.2.2.1 (B ++ (r.steps.take ζ.1).flatMap stpB) ζ.2.2.2) (fun (ζ : (Nat) × (Hp) × (Value) × (List Value)) => v.s.n - ζ.1) ((0, ρ', .slice va B.length vc, sp')) (⟨Nat.zero_le _, hρ, by simpa using hown⟩) ev_le ev_le rfl tk ?_
    rintro ⟨k, ρ1, w2, sp2⟩ hI
    try simp only [List.cons_append, List.nil_append, List.append_assoc, List.append_eq] at hI ⊢
    try dsimp only at hI ⊢
    obtain ⟨hk, hle7, hown⟩ := hI
    clear hρ
    by_cases hlt : k < v.s.n
    · obtain ⟨b, off, C, T, fr, e1, hbb, hfit, hcc⟩ := (h.s.at'.mono hle7).get (show k < r.steps.length by omega)
      have hts := flatMap_app stpB r.steps k (by omega)
      have hmem := List.getElem_mem (show k < r.steps.length by omega)
      have hfl := flatMap_le stpB 21 (r.steps.take k) (fun x hx => stpB_len (hL.st x (List.mem_of_mem_take hx)))
      have htk : (r.steps.take k).length ≤ 64 := by simp; omega
      have hst := hL.st _ hmem
      have hsf := h.sf _ hmem
      generalize r.steps[k]'(by omega) = x at *
      have hxl : (B ++ (r.steps.take k).flatMap stpB).length ≤ 20000 := by simp only [List.length_append]; omega
      have hmm : B ++ (r.steps.take k).flatMap stpB ++ stpB x = B ++ (r.steps.take (k + 1)).flatMap stpB := by rw [hts]; simp
      generalize hX : B ++ (r.steps.take k).flatMap stpB = X at *
      obtain ⟨va, vc, rfl, _⟩ := hown.slice
      rw [e1]
      have hln := stpB_len hst
      repeat' (first | (refine tl_is (.func 115) ?_; refine qC rfl rfl (stepped_spec _ x hst hsf) ?_; rintro v ρ' L' hle ⟨hl5, a5, c5, rfl, hc5, hs5, rfl⟩ <;> (try simp only [kM, kN, kO])) | (refine tl_appS (Y := stpB x) rfl rfl hown (by first | exact hs5 | exact SIn.mono hs5 (by assumption)) (by (try simp [be_length]) <;> omega) rfl (fun va vc sp' hown => ?_)) | (refine iBu ?_; refine tl_y (y_buildN rfl) rfl rfl ?_) | (refine i_op ?_; first | (refine i_qq ?_; refine qQ ?_) | refine qEf ?_) | refine tl_nil ?_ | (refine i_tc ?_; refine qTc ?_) | (refine i_te ?_; refine qTe ?_) | intro _)
      rw [← e1]
      rw [hmm] at hown ⊢
      refine te_round_g (k + 1, _, _, sp') (⟨hlt, Hp.le_trans hle7 hl5, hown⟩) ev_le ev_le rfl tk inferInstance (by first | omega | (dsimp only; omega))
    · rw [show r.steps.take k = r.steps by rw [show k = r.steps.length by omega, List.take_length]] at hown ⊢
      have hρ := hle7
      rw [hfin] at hown ⊢
      obtain ⟨va, vc, rfl, _⟩ := hown.slice
      repeat' (first | (refine iBu ?_; refine tl_y (y_buildN rfl) rfl rfl ?_) | (refine i_op ?_; first | (refine i_qq ?_; refine qQ ?_) | refine qEf ?_) | refine tl_nil ?_ | (refine i_tc ?_; refine qTc ?_) | (refine i_te ?_; refine qTe ?_) | intro _)
      refine te_freeze (bytC (.slice va (recB r).length vc) (recB r) sp2) (h := by repeat (first | exact rem_here' | apply rem_there')) (fun ρ6 hle6 hfz => ?_)
      obtain ⟨a6, c6, e6, hc6, hs6⟩ := hown.sIn hfz
      cases e6
      exact qE (L' := []) ⟨Hp.le_trans hρ hle6, va, vc, rfl, hc6, hs6, rfl⟩
  by_cases k2 : r.kind = 2
  · repeat' (first | (refine tl_buildSlice_s rfl rfl rfl rfl (by simp) rfl rfl (fun bs => ?_); simp only [hbi]; refine tl_appL (b := UInt8.ofNat v.i.n) rfl rfl hown SrcV.lit (by (try simp [be_length]) <;> omega) rfl (fun va vc sp' hown => ?_)) | (refine iBu ?_; refine tl_y (y_buildN rfl) rfl rfl ?_) | (refine i_op ?_; first | (refine i_qq ?_; refine qQ ?_) | refine qEf ?_) | refine tl_nil ?_ | (refine i_tc ?_; refine qTc ?_) | (refine i_te ?_; refine qTe ?_) | intro _)
    obtain ⟨B, hB⟩ : ∃ B, H ++ [UInt8.ofNat v.i.n] = B := ⟨_, rfl⟩
    rw [hB] at hown ⊢
    have hBl : B.length ≤ 30 := by rw [← hB]; simp [hHl]
    have hfin : B ++ r.ims.flatMap (imB true) = recB r := by rw [← hB]; unfold recB recTB imsB listB; rw [hHB, if_pos k2, decide_eq_true k2, hil]; simp
    rw [show ownC (.slice va B.length vc) (B.map u8c) sp' 5 = ownC (.slice va B.length vc) ((B ++ (r.ims.take 0).flatMap (imB true)).map u8c) sp' 5 by simp]
    refine tc_loop_g [(1, _), (2, _), (49, _), (61, _), (62, _)] (fun (ζ : (Nat) × (Hp) × (Value) × (List Value)) => [(63, .int .i64 ζ.1), (3, ζ.2.2.1)]) (fun (ζ : (Nat) × (Hp) × (Value) × (List Value)) => ζ.2.1) (fun (ζ : (Nat) × (Hp) × (Value) × (List Value)) => [bytC ζ.2.2.1 (B ++ (r.ims.take ζ.1).flatMap (imB true)) ζ.2.2.2, [(rb, .cells ⟨recV v r⟩ 30 (0, 0))]]) (fun (ζ : (Nat) × (Hp) × (Value) × (List Value)) => ζ.1 ≤ v.i.n ∧ ρ.le ζ.2.1 ∧ OwnB ζ.2.2.1 (B ++ (r.ims.take ζ.1).flatMap (imB true)) ζ.2.2.2) (fun (ζ : (Nat) × (Hp) × (Value) × (List Value)) => v.i.n - ζ.1) ((0, ρ2, .slice va B.length vc, sp')) (⟨Nat.zero_le _, hρ, by simpa using hown⟩) ev_le ev_le rfl tk ?_
    rintro ⟨k, ρ1, w2, sp2⟩ hI
    try simp only [List.cons_append, List.nil_append, List.append_assoc, List.append_eq] at hI ⊢
    try dsimp only at hI ⊢
    obtain ⟨hk, hle7, hown⟩ := hI
    clear hρ
    by_cases hlt : k < v.i.n
    · obtain ⟨b, off, C, T, fr, e1, hbb, hfit, hcc⟩ := (h.i.at'.mono hle7).get (show k < r.ims.length by omega)
      have hts := flatMap_app (imB true) r.ims k (by omega)
      have hmem := List.getElem_mem (show k < r.ims.length by omega)
      have hfl := flatMap_le (imB true) 165 (r.ims.take k) (fun x hx => imB_len (hL.im x (List.mem_of_mem_take hx)).2.1 (hL.im x (List.mem_of_mem_take hx)).2.2)
      have htk : (r.ims.take k).length ≤ 64 := by simp; omega
      have hin := h.im _ hmem
      obtain ⟨hp, ha, hb⟩ := hL.im _ hmem
      generalize r.ims[k]'(by omega) = x at *
      have hxl : (B ++ (r.ims.take k).flatMap (imB true)).length ≤ 20000 := by simp only [List.length_append]; omega
      have hmm : B ++ (r.ims.take k).flatMap (imB true) ++ (imB true) x = B ++ (r.ims.take (k + 1)).flatMap (imB true) := by rw [hts]; simp
      generalize hX : B ++ (r.ims.take k).flatMap (imB true) = X at *
      obtain ⟨va, vc, rfl, _⟩ := hown.slice
      rw [e1]
      have hpg := tB_eq (t := x.page) (by omega) (by omega)
      have h82 := contB_len hb
      have h83 := contB_len ha
      have hcb := bytesR_spec ρ1 x.bv x.b (hin.b.cin.mono hle7) hb (fun r hr => (hin.b.row r hr).id) hin.b.kid
      have hca := fun ρ (hle : ρ1.le ρ) => bytesR_spec ρ x.av x.a ((hin.a.cin.mono hle7).mono hle) ha (fun r hr => (hin.a.row r hr).id) hin.a.kid
      have hρ := Hp.le_refl ρ1
      repeat' (first | (refine tl_buildSlice_s rfl rfl rfl rfl (by simp) rfl rfl (fun bs => ?_); simp only [hpg]; refine tl_appL (b := tB x.page) rfl rfl hown SrcV.lit (by (try simp [be_length]) <;> omega) rfl (fun va vc sp' hown => ?_)) | (refine tl_is (.func 114) ?_; refine qC rfl rfl (hcb) ?_; rintro v ρ' L' hle ⟨hl5, a5, n5, c5, rfl, hc5, hs5, rfl⟩ <;> (try simp only [kM, kN, kO]); have hρ := hl5) | (refine tl_appS (Y := contB x.b) rfl rfl hown (by first | exact hs5 | exact SIn.mono hs5 (by assumption)) (by (try simp [be_length]) <;> omega) rfl (fun va vc sp' hown => ?_)) | (refine tl_is (.func 114) ?_; refine qC rfl rfl (hca _ hρ) ?_; rintro v ρ' L' hle ⟨hl6, a6, n6, c6, rfl, hc6, hs6, rfl⟩ <;> (try simp only [kM, kN, kO]); have hρ := Hp.le_trans hρ hl6) | (refine tl_appS (Y := contB x.a) rfl rfl hown (by first | exact hs6 | exact SIn.mono hs6 (by assumption)) (by (try simp [be_length]) <;> omega) rfl (fun va vc sp' hown => ?_)) | (refine iBu ?_; refine tl_y (y_buildN rfl) rfl rfl ?_) | (refine i_op ?_; first | (refine i_qq ?_; refine qQ ?_) | refine qEf ?_) | refine tl_nil ?_ | (refine i_tc ?_; refine qTc ?_) | (refine i_te ?_; refine qTe ?_) | intro _)
      rw [← e1]
      have e2 : X ++ [tB x.page] ++ contB x.b ++ contB x.a = B ++ (r.ims.take (k + 1)).flatMap (imB true) := by rw [← hmm]; simp [imB]
      rw [e2] at hown ⊢
      refine te_round_g (k + 1, _, _, sp') (⟨hlt, Hp.le_trans hle7 hρ, hown⟩) ev_le ev_le rfl tk inferInstance (by first | omega | (dsimp only; omega))
    · rw [show r.ims.take k = r.ims by rw [show k = r.ims.length by omega, List.take_length]] at hown ⊢
      have hρ := hle7
      rw [hfin] at hown ⊢
      obtain ⟨va, vc, rfl, _⟩ := hown.slice
      repeat' (first | (refine iBu ?_; refine tl_y (y_buildN rfl) rfl rfl ?_) | (refine i_op ?_; first | (refine i_qq ?_; refine qQ ?_) | refine qEf ?_) | refine tl_nil ?_ | (refine i_tc ?_; refine qTc ?_) | (refine i_te ?_; refine qTe ?_) | intro _)
      refine te_freeze (bytC (.slice va (recB r).length vc) (recB r) sp2) (h := by repeat (first | exact rem_here' | apply rem_there')) (fun ρ6 hle6 hfz => ?_)
      obtain ⟨a6, c6, e6, hc6, hs6⟩ := hown.sIn hfz
      cases e6
      exact qE (L' := []) ⟨Hp.le_trans hρ hle6, va, vc, rfl, hc6, hs6, rfl⟩
  by_cases k5 : r.kind = 5
  · repeat' (first | (refine tl_is (.func 113) ?_; refine qC rfl rfl (highN_spec _ (r.next) 8 (by omega) (by decide)) ?_; rintro v ρ' L' hle ⟨hl4, a4, c4, rfl, hc4, hs4, rfl⟩ <;> (try simp only [kM, kN, kO])) | (refine tl_appS (Y := be 8 r.next) rfl rfl hown (by first | exact hs4 | exact SIn.mono hs4 (by assumption)) (by (try simp [be_length]) <;> omega) rfl (fun va vc sp' hown => ?_)) | (refine tl_buildSlice_s rfl rfl rfl rfl (by simp) rfl rfl (fun bs => ?_); simp only [hbi]; refine tl_appL (b := UInt8.ofNat v.i.n) rfl rfl hown SrcV.lit (by (try simp [be_length]) <;> omega) rfl (fun va vc sp' hown => ?_)) | (refine iBu ?_; refine tl_y (y_buildN rfl) rfl rfl ?_) | (refine i_op ?_; first | (refine i_qq ?_; refine qQ ?_) | refine qEf ?_) | refine tl_nil ?_ | (refine i_tc ?_; refine qTc ?_) | (refine i_te ?_; refine qTe ?_) | intro _)
    obtain ⟨B, hB⟩ : ∃ B, H ++ be 8 r.next ++ [UInt8.ofNat v.i.n] = B := ⟨_, rfl⟩
    rw [hB] at hown ⊢
    have hBl : B.length ≤ 30 := by rw [← hB]; simp [be_length, hHl]
    have hfin : B ++ r.ims.flatMap (imB false) = recB r := by rw [← hB]; unfold recB recTB imsB listB; rw [hHB, if_neg (by omega), if_neg (by omega), if_neg (by omega), if_pos k5, decide_eq_false (by omega), hil]; simp
    have hρ := Hp.le_trans hρ hl4
    rw [show ownC (.slice va B.length vc) (B.map u8c) sp' 5 = ownC (.slice va B.length vc) ((B ++ (r.ims.take 0).flatMap (imB false)).map u8c) sp' 5 by simp]
    refine tc_loop_g [(1, _), (2, _), (49, _), (61, _), (62, _)] (fun (ζ : (Nat) × (Hp) × (Value) × (List Value)) => [(63, .int .i64 ζ.1), (3, ζ.2.2.1)]) (fun (ζ : (Nat) × (Hp) × (Value) × (List Value)) => ζ.2.1) (fun (ζ : (Nat) × (Hp) × (Value) × (List Value)) => [bytC ζ.2.2.1 (B ++ (r.ims.take ζ.1).flatMap (imB false)) ζ.2.2.2, [(rb, .cells ⟨recV v r⟩ 30 (0, 0))]]) (fun (ζ : (Nat) × (Hp) × (Value) × (List Value)) => ζ.1 ≤ v.i.n ∧ ρ.le ζ.2.1 ∧ OwnB ζ.2.2.1 (B ++ (r.ims.take ζ.1).flatMap (imB false)) ζ.2.2.2) (fun (ζ : (Nat) × (Hp) × (Value) × (List Value)) => v.i.n - ζ.1) ((0, ρ', .slice va B.length vc, sp')) (⟨Nat.zero_le _, hρ, by simpa using hown⟩) ev_le ev_le rfl tk ?_
    rintro ⟨k, ρ1, w2, sp2⟩ hI
    try simp only [List.cons_append, List.nil_append, List.append_assoc, List.append_eq] at hI ⊢
    try dsimp only at hI ⊢
    obtain ⟨hk, hle7, hown⟩ := hI
    clear hρ
    by_cases hlt : k < v.i.n
    · obtain ⟨b, off, C, T, fr, e1, hbb, hfit, hcc⟩ := (h.i.at'.mono hle7).get (show k < r.ims.length by omega)
      have hts := flatMap_app (imB false) r.ims k (by omega)
      have hmem := List.getElem_mem (show k < r.ims.length by omega)
      have hfl := flatMap_le (imB false) 165 (r.ims.take k) (fun x hx => imB_len (hL.im x (List.mem_of_mem_take hx)).2.1 (hL.im x (List.mem_of_mem_take hx)).2.2)
      have htk : (r.ims.take k).length ≤ 64 := by simp; omega
      have hin := h.im _ hmem
      obtain ⟨hp, ha, hb⟩ := hL.im _ hmem
      generalize r.ims[k]'(by omega) = x at *
      have hxl : (B ++ (r.ims.take k).flatMap (imB false)).length ≤ 20000 := by simp only [List.length_append]; omega
      have hmm : B ++ (r.ims.take k).flatMap (imB false) ++ (imB false) x = B ++ (r.ims.take (k + 1)).flatMap (imB false) := by rw [hts]; simp
      generalize hX : B ++ (r.ims.take k).flatMap (imB false) = X at *
      obtain ⟨va, vc, rfl, _⟩ := hown.slice
      rw [e1]
      have hpg := tB_eq (t := x.page) (by omega) (by omega)
      have h82 := contB_len hb
      have h83 := contB_len ha
      have hcb := bytesR_spec ρ1 x.bv x.b (hin.b.cin.mono hle7) hb (fun r hr => (hin.b.row r hr).id) hin.b.kid
      have hca := fun ρ (hle : ρ1.le ρ) => bytesR_spec ρ x.av x.a ((hin.a.cin.mono hle7).mono hle) ha (fun r hr => (hin.a.row r hr).id) hin.a.kid
      have hρ := Hp.le_refl ρ1
      repeat' (first | (refine tl_buildSlice_s rfl rfl rfl rfl (by simp) rfl rfl (fun bs => ?_); simp only [hpg]; refine tl_appL (b := tB x.page) rfl rfl hown SrcV.lit (by (try simp [be_length]) <;> omega) rfl (fun va vc sp' hown => ?_)) | (refine tl_is (.func 114) ?_; refine qC rfl rfl (hca _ hρ) ?_; rintro v ρ' L' hle ⟨hl6, a6, n6, c6, rfl, hc6, hs6, rfl⟩ <;> (try simp only [kM, kN, kO]); have hρ := Hp.le_trans hρ hl6) | (refine tl_appS (Y := contB x.a) rfl rfl hown (by first | exact hs6 | exact SIn.mono hs6 (by assumption)) (by (try simp [be_length]) <;> omega) rfl (fun va vc sp' hown => ?_)) | (refine iBu ?_; refine tl_y (y_buildN rfl) rfl rfl ?_) | (refine i_op ?_; first | (refine i_qq ?_; refine qQ ?_) | refine qEf ?_) | refine tl_nil ?_ | (refine i_tc ?_; refine qTc ?_) | (refine i_te ?_; refine qTe ?_) | intro _)
      rw [← e1]
      have e2 : X ++ [tB x.page] ++ contB x.a = B ++ (r.ims.take (k + 1)).flatMap (imB false) := by rw [← hmm]; simp [imB]
      rw [e2] at hown ⊢
      refine te_round_g (k + 1, _, _, sp') (⟨hlt, Hp.le_trans hle7 hρ, hown⟩) ev_le ev_le rfl tk inferInstance (by first | omega | (dsimp only; omega))
    · rw [show r.ims.take k = r.ims by rw [show k = r.ims.length by omega, List.take_length]] at hown ⊢
      have hρ := hle7
      rw [hfin] at hown ⊢
      obtain ⟨va, vc, rfl, _⟩ := hown.slice
      repeat' (first | (refine iBu ?_; refine tl_y (y_buildN rfl) rfl rfl ?_) | (refine i_op ?_; first | (refine i_qq ?_; refine qQ ?_) | refine qEf ?_) | refine tl_nil ?_ | (refine i_tc ?_; refine qTc ?_) | (refine i_te ?_; refine qTe ?_) | intro _)
      refine te_freeze (bytC (.slice va (recB r).length vc) (recB r) sp2) (h := by repeat (first | exact rem_here' | apply rem_there')) (fun ρ6 hle6 hfz => ?_)
      obtain ⟨a6, c6, e6, hc6, hs6⟩ := hown.sIn hfz
      cases e6
      exact qE (L' := []) ⟨Hp.le_trans hρ hle6, va, vc, rfl, hc6, hs6, rfl⟩
  by_cases k9 : r.kind = 9
  · repeat' (first | (refine iBu ?_; refine tl_y (y_buildN rfl) rfl rfl ?_) | (refine i_op ?_; first | (refine i_qq ?_; refine qQ ?_) | refine qEf ?_) | refine tl_nil ?_ | (refine i_tc ?_; refine qTc ?_) | (refine i_te ?_; refine qTe ?_) | intro _)
    refine tc_cut_k R [] (fun (ζ : (Hp) × (Value) × (List Value)) => [(1, .pointer (some ⟨rb, 0, none⟩)), (2, .slice none 0 0), (3, ζ.2.1)]) (fun (ζ : (Hp) × (Value) × (List Value)) => ζ.1) (fun (ζ : (Hp) × (Value) × (List Value)) => [bytC ζ.2.1 (H ++ be 4 r.nextTxn.toNat ++ [UInt8.ofNat v.t.n]) ζ.2.2, [(rb, .cells ⟨recV v r⟩ 30 (0, 0))]]) (fun (ζ : (Hp) × (Value) × (List Value)) => ρ2.le ζ.1 ∧ OwnB ζ.2.1 (H ++ be 4 r.nextTxn.toNat ++ [UInt8.ofNat v.t.n]) ζ.2.2) ev_le ?_ ?_
    · refine tc_any (Stays _ _ ([[(rb, .cells ⟨recV v r⟩ 30 (0, 0))]])) (stays_of (hT := tk) (Hp.le_refl _)) ?_
      all_goals refine rMv 0 ?_
      all_goals refine rFa 1 ?_
      all_goals refine rLd 2 ?_
      all_goals refine rCv 3 ?_
      all_goals refine rFa 6 ?_
      all_goals refine rLd 7 ?_
      all_goals refine rBi 8 ?_
      all_goals refine rCv 9 ?_
      all_goals (refine rStep2 (i := 4) (j := 10) ?_ ?_ <;> ((try refine qWant ?_); (first | (refine tl_is (.func 113) ?_; refine qC rfl rfl (high_spec _ (r.nextTxn) 4 (by omega) (by omega) (by decide)) ?_; rintro v ρ' L' hle ⟨hl5, a5, c5, rfl, hc5, hs5, rfl⟩ <;> (try simp only [kM, kN, kO])) | (refine tl_buildSlice_s rfl rfl rfl rfl (by simp) rfl rfl (fun bs => ?_); simp only [hbt]) | (refine qEf ?_; try intro _)) <;> ((try simp only [kM, kN, kO]); refine tl_nil ?_; refine rNext ?_)))
      all_goals (first | (refine rStep2 (i := 5) (j := 10) ?_ ?_ <;> ((try refine qWant ?_); (first | (refine tl_appS (Y := be 4 r.nextTxn.toNat) rfl rfl hown (by first | exact hs5 | exact SIn.mono hs5 (by assumption)) (by (try simp [be_length]) <;> omega) rfl (fun va vc sp' hown => ?_)) | (refine tl_buildSlice_s rfl rfl rfl rfl (by simp) rfl rfl (fun bs => ?_); simp only [hbt]) | (refine tl_appL (b := UInt8.ofNat v.t.n) rfl rfl hown SrcV.lit (by (try simp [be_length]) <;> omega) rfl (fun va vc sp' hown => ?_)) | (refine qEf ?_; try intro _)) <;> ((try simp only [kM, kN, kO]); refine tl_nil ?_; refine rNext ?_))) | (refine rStep (i := 4) ?_; ((try refine qWant ?_); (first | (refine tl_is (.func 113) ?_; refine qC rfl rfl (high_spec _ (r.nextTxn) 4 (by omega) (by omega) (by decide)) ?_; rintro v ρ' L' hle ⟨hl5, a5, c5, rfl, hc5, hs5, rfl⟩ <;> (try simp only [kM, kN, kO])) | (refine qEf ?_; try intro _)) <;> ((try simp only [kM, kN, kO]); refine tl_nil ?_; refine rNext ?_))))
      all_goals (first | (refine rStep (i := 10) ?_; ((try refine qWant ?_); (first | (refine tl_buildSlice_s rfl rfl rfl rfl (by simp) rfl rfl (fun bs => ?_); simp only [hbt]) | (refine qEf ?_; try intro _)) <;> ((try simp only [kM, kN, kO]); refine tl_nil ?_; refine rNext ?_))) | (refine rStep (i := 5) ?_; ((try refine qWant ?_); (first | (refine tl_appS (Y := be 4 r.nextTxn.toNat) rfl rfl hown (by first | exact hs5 | exact SIn.mono hs5 (by assumption)) (by (try simp [be_length]) <;> omega) rfl (fun va vc sp' hown => ?_)) | (refine tl_appL (b := UInt8.ofNat v.t.n) rfl rfl hown SrcV.lit (by (try simp [be_length]) <;> omega) rfl (fun va vc sp' hown => ?_)) | (refine qEf ?_; try intro _)) <;> ((try simp only [kM, kN, kO]); refine tl_nil ?_; refine rNext ?_))))
      all_goals (refine rStep (i := 11) ?_; ((try refine qWant ?_); (first | (refine tl_appS (Y := be 4 r.nextTxn.toNat) rfl rfl hown (by first | exact hs5 | exact SIn.mono hs5 (by assumption)) (by (try simp [be_length]) <;> omega) rfl (fun va vc sp' hown => ?_)) | (refine tl_appL (b := UInt8.ofNat v.t.n) rfl rfl hown SrcV.lit (by (try simp [be_length]) <;> omega) rfl (fun va vc sp' hown => ?_)) | (refine qEf ?_; try intro _)) <;> ((try simp only [kM, kN, kO]); refine tl_nil ?_; refine rNext ?_)))
      all_goals refine rFull ?_
      all_goals refine rAs 12 ?_
      all_goals refine rDone ?_
      all_goals refine te_cut_g ((_, _, _)) (⟨hl5, hown⟩) ev_le ev_le rfl tk inferInstance
    rintro ⟨ρ3, w, sp⟩ ⟨hle3, hown⟩
    simp only [List.cons_append, List.nil_append] at hle3 ⊢
    dsimp only at hown
    obtain ⟨va, vc, rfl, _⟩ := hown.slice
    obtain ⟨B, hB⟩ : ∃ B, H ++ be 4 r.nextTxn.toNat ++ [UInt8.ofNat v.t.n] = B := ⟨_, rfl⟩
    rw [hB] at hown ⊢
    have hBl : B.length = 26 := by rw [← hB]; simp [be_length, hHl]
    have hfin : B ++ r.txns.flatMap ckTB ++ [UInt8.ofNat v.d.n] ++ r.dirty.flatMap ckPB = recB r := by rw [← hB]; unfold recB recTB listB; rw [hHB, if_neg (by omega), if_neg (by omega), if_neg (by omega), if_neg (by omega), if_pos k9, htl, hdl]; simp
    have hρ := Hp.le_trans hρ hle3
    repeat' (first | (refine iBu ?_; refine tl_y (y_buildN rfl) rfl rfl ?_) | (refine i_op ?_; first | (refine i_qq ?_; refine qQ ?_) | refine qEf ?_) | refine tl_nil ?_ | (refine i_tc ?_; refine qTc ?_) | (refine i_te ?_; refine qTe ?_) | intro _)
    rw [show bytC (.slice va B.length vc) B sp = ownC (.slice va B.length vc) (B.map u8c) sp 5 from rfl]
    rw [show ownC (.slice va B.length vc) (B.map u8c) sp 5 = ownC (.slice va B.length vc) ((B ++ (r.txns.take 0).flatMap ckTB).map u8c) sp 5 by simp]
    refine tc_loop_g [(1, _), (2, _), (123, _), (124, _)] (fun (ζ : (Nat) × (Hp) × (Value) × (List Value)) => [(125, .int .i64 ζ.1), (3, ζ.2.2.1)]) (fun (ζ : (Nat) × (Hp) × (Value) × (List Value)) => ζ.2.1) (fun (ζ : (Nat) × (Hp) × (Value) × (List Value)) => [bytC ζ.2.2.1 (B ++ (r.txns.take ζ.1).flatMap ckTB) ζ.2.2.2, [(rb, .cells ⟨recV v r⟩ 30 (0, 0))]]) (fun (ζ : (Nat) × (Hp) × (Value) × (List Value)) => ζ.1 ≤ v.t.n ∧ ρ.le ζ.2.1 ∧ OwnB ζ.2.2.1 (B ++ (r.txns.take ζ.1).flatMap ckTB) ζ.2.2.2) (fun (ζ : (Nat) × (Hp) × (Value) × (List Value)) => v.t.n - ζ.1) ((0, ρ3, .slice va B.length vc, sp)) (⟨Nat.zero_le _, hρ, by simpa using hown⟩) ev_le ev_le rfl tk ?_
    rintro ⟨k, ρ1, w2, sp2⟩ hI
    try simp only [List.cons_append, List.nil_append, List.append_assoc, List.append_eq] at hI ⊢
    try dsimp only at hI ⊢
    obtain ⟨hk, hle7, hown⟩ := hI
    clear hρ
    by_cases hlt : k < v.t.n
    · obtain ⟨b, off, C, T, fr, e1, hbb, hfit, hcc⟩ := (h.t.at'.mono hle7).get (show k < r.txns.length by omega)
      have hts := flatMap_app ckTB r.txns k (by omega)
      have hmem := List.getElem_mem (show k < r.txns.length by omega)
      have hfl := flatMap_le ckTB 29 (r.txns.take k) (fun x hx => Nat.le_of_eq (ckTB_len x))
      have htk : (r.txns.take k).length ≤ 64 := by simp; omega
      obtain ⟨q1, q2, q3, q4, q5⟩ := hL.tx _ hmem
      generalize r.txns[k]'(by omega) = x at *
      have hxl : (B ++ (r.txns.take k).flatMap ckTB).length ≤ 20000 := by simp only [List.length_append]; omega
      have hmm : B ++ (r.txns.take k).flatMap ckTB ++ ckTB x = B ++ (r.txns.take (k + 1)).flatMap ckTB := by rw [hts]; simp
      generalize hX : B ++ (r.txns.take k).flatMap ckTB = X at *
      obtain ⟨va, vc, rfl, _⟩ := hown.slice
      rw [e1]
      have hst := tB_eq (t := x.state) (by omega) (by omega)
      repeat' (first | (refine iBu ?_; refine tl_y (y_buildN rfl) rfl rfl ?_) | (refine i_op ?_; first | (refine i_qq ?_; refine qQ ?_) | refine qEf ?_) | refine tl_nil ?_ | (refine i_tc ?_; refine qTc ?_) | (refine i_te ?_; refine qTe ?_) | intro _)
      refine tc_any (Stays _ _ ([[(_, .cells ⟨ckTV x⟩ 81 (0, 0))]])) (stays_of (hT := tk) (Hp.le_refl _)) ?_
      all_goals refine rMv 0 ?_
      all_goals refine rFa 1 ?_
      all_goals refine rLd 2 ?_
      all_goals refine rCv 3 ?_
      all_goals refine rFa 6 ?_
      all_goals refine rLd 7 ?_
      all_goals (refine rStep (i := 4) ?_; ((try refine qWant ?_); (first | (refine tl_is (.func 113) ?_; refine qC rfl rfl (high_spec _ (x.txn) 4 (by omega) (by omega) (by decide)) ?_; rintro v ρ' L' hle ⟨hl5, a5, c5, rfl, hc5, hs5, rfl⟩ <;> (try simp only [kM, kN, kO])) | (refine tl_is (.func 113) ?_; refine qC rfl rfl (highN_spec _ (x.first) 8 (by omega) (by decide)) ?_; rintro v ρ' L' hle ⟨hl6, a6, c6, rfl, hc6, hs6, rfl⟩ <;> (try simp only [kM, kN, kO])) | (refine qEf ?_; try intro _)) <;> ((try simp only [kM, kN, kO]); refine tl_nil ?_; refine rNext ?_)))
      all_goals (refine rStep (i := 5) ?_; ((try refine qWant ?_); (first | (refine tl_appS (Y := be 4 x.txn.toNat) rfl rfl hown (by first | exact hs5 | exact SIn.mono hs5 (by assumption)) (by (try simp [be_length]) <;> omega) rfl (fun va vc sp' hown => ?_)) | (refine tl_appS (Y := be 8 x.first) rfl rfl hown (by first | exact hs6 | exact SIn.mono hs6 (by assumption)) (by (try simp [be_length]) <;> omega) rfl (fun va vc sp' hown => ?_)) | (refine qEf ?_; try intro _)) <;> ((try simp only [kM, kN, kO]); refine tl_nil ?_; refine rNext ?_)))
      all_goals (refine rStep (i := 8) ?_; ((try refine qWant ?_); (first | (refine tl_is (.func 113) ?_; refine qC rfl rfl (high_spec _ (x.txn) 4 (by omega) (by omega) (by decide)) ?_; rintro v ρ' L' hle ⟨hl5, a5, c5, rfl, hc5, hs5, rfl⟩ <;> (try simp only [kM, kN, kO])) | (refine tl_is (.func 113) ?_; refine qC rfl rfl (highN_spec _ (x.first) 8 (by omega) (by decide)) ?_; rintro v ρ' L' hle ⟨hl6, a6, c6, rfl, hc6, hs6, rfl⟩ <;> (try simp only [kM, kN, kO])) | (refine qEf ?_; try intro _)) <;> ((try simp only [kM, kN, kO]); refine tl_nil ?_; refine rNext ?_)))
      all_goals (refine rStep (i := 9) ?_; ((try refine qWant ?_); (first | (refine tl_appS (Y := be 4 x.txn.toNat) rfl rfl hown (by first | exact hs5 | exact SIn.mono hs5 (by assumption)) (by (try simp [be_length]) <;> omega) rfl (fun va vc sp' hown => ?_)) | (refine tl_appS (Y := be 8 x.first) rfl rfl hown (by first | exact hs6 | exact SIn.mono hs6 (by assumption)) (by (try simp [be_length]) <;> omega) rfl (fun va vc sp' hown => ?_)) | (refine qEf ?_; try intro _)) <;> ((try simp only [kM, kN, kO]); refine tl_nil ?_; refine rNext ?_)))
      all_goals refine rFull ?_
      all_goals refine rAs 10 ?_
      all_goals refine rDone ?_
      all_goals (repeat' (first | (refine iBu ?_; refine tl_y (y_buildN rfl) rfl rfl ?_) | (refine i_op ?_; first | (refine i_qq ?_; refine qQ ?_) | refine qEf ?_) | refine tl_nil ?_ | (refine i_tc ?_; refine qTc ?_) | (refine i_te ?_; refine qTe ?_) | intro _))
      all_goals refine tc_any (Stays _ _ ([[(_, .cells ⟨ckTV x⟩ 81 (0, 0))]])) (stays_of (hT := tk) (Hp.le_refl _)) ?_
      all_goals refine rMv 0 ?_
      all_goals refine rFa 1 ?_
      all_goals refine rLd 2 ?_
      all_goals refine rFa 5 ?_
      all_goals refine rLd 6 ?_
      all_goals refine rFa 9 ?_
      all_goals refine rLd 10 ?_
      all_goals refine rCv 11 ?_
      all_goals (refine rStep2 (i := 3) (j := 12) ?_ ?_ <;> ((try refine qWant ?_); (first | (refine tl_is (.func 113) ?_; refine qC rfl rfl (highN_spec _ (x.last) 8 (by omega) (by decide)) ?_; rintro v ρ' L' hle ⟨hl7, a7, c7, rfl, hc7, hs7, rfl⟩ <;> (try simp only [kM, kN, kO])) | (refine tl_is (.func 113) ?_; refine qC rfl rfl (highN_spec _ (x.undo) 8 (by omega) (by decide)) ?_; rintro v ρ' L' hle ⟨hl8, a8, c8, rfl, hc8, hs8, rfl⟩ <;> (try simp only [kM, kN, kO])) | (refine tl_buildSlice_s rfl rfl rfl rfl (by simp) rfl rfl (fun bs => ?_); simp only [hst]) | (refine qEf ?_; try intro _)) <;> ((try simp only [kM, kN, kO]); refine tl_nil ?_; refine rNext ?_)))
      all_goals (first | (refine rStep2 (i := 4) (j := 12) ?_ ?_ <;> ((try refine qWant ?_); (first | (refine tl_appS (Y := be 8 x.last) rfl rfl hown (by first | exact hs7 | exact SIn.mono hs7 (by assumption)) (by (try simp [be_length]) <;> omega) rfl (fun va vc sp' hown => ?_)) | (refine tl_appS (Y := be 8 x.undo) rfl rfl hown (by first | exact hs8 | exact SIn.mono hs8 (by assumption)) (by (try simp [be_length]) <;> omega) rfl (fun va vc sp' hown => ?_)) | (refine tl_buildSlice_s rfl rfl rfl rfl (by simp) rfl rfl (fun bs => ?_); simp only [hst]) | (refine tl_appL (b := tB x.state) rfl rfl hown SrcV.lit (by (try simp [be_length]) <;> omega) rfl (fun va vc sp' hown => ?_)) | (refine qEf ?_; try intro _)) <;> ((try simp only [kM, kN, kO]); refine tl_nil ?_; refine rNext ?_))) | (refine rStep (i := 3) ?_; ((try refine qWant ?_); (first | (refine tl_is (.func 113) ?_; refine qC rfl rfl (highN_spec _ (x.last) 8 (by omega) (by decide)) ?_; rintro v ρ' L' hle ⟨hl7, a7, c7, rfl, hc7, hs7, rfl⟩ <;> (try simp only [kM, kN, kO])) | (refine tl_is (.func 113) ?_; refine qC rfl rfl (highN_spec _ (x.undo) 8 (by omega) (by decide)) ?_; rintro v ρ' L' hle ⟨hl8, a8, c8, rfl, hc8, hs8, rfl⟩ <;> (try simp only [kM, kN, kO])) | (refine qEf ?_; try intro _)) <;> ((try simp only [kM, kN, kO]); refine tl_nil ?_; refine rNext ?_))))
      all_goals (first | (refine rStep2 (i := 7) (j := 12) ?_ ?_ <;> ((try refine qWant ?_); (first | (refine tl_is (.func 113) ?_; refine qC rfl rfl (highN_spec _ (x.last) 8 (by omega) (by decide)) ?_; rintro v ρ' L' hle ⟨hl7, a7, c7, rfl, hc7, hs7, rfl⟩ <;> (try simp only [kM, kN, kO])) | (refine tl_is (.func 113) ?_; refine qC rfl rfl (highN_spec _ (x.undo) 8 (by omega) (by decide)) ?_; rintro v ρ' L' hle ⟨hl8, a8, c8, rfl, hc8, hs8, rfl⟩ <;> (try simp only [kM, kN, kO])) | (refine tl_buildSlice_s rfl rfl rfl rfl (by simp) rfl rfl (fun bs => ?_); simp only [hst]) | (refine qEf ?_; try intro _)) <;> ((try simp only [kM, kN, kO]); refine tl_nil ?_; refine rNext ?_))) | (refine rStep (i := 4) ?_; ((try refine qWant ?_); (first | (refine tl_appS (Y := be 8 x.last) rfl rfl hown (by first | exact hs7 | exact SIn.mono hs7 (by assumption)) (by (try simp [be_length]) <;> omega) rfl (fun va vc sp' hown => ?_)) | (refine tl_appS (Y := be 8 x.undo) rfl rfl hown (by first | exact hs8 | exact SIn.mono hs8 (by assumption)) (by (try simp [be_length]) <;> omega) rfl (fun va vc sp' hown => ?_)) | (refine tl_appL (b := tB x.state) rfl rfl hown SrcV.lit (by (try simp [be_length]) <;> omega) rfl (fun va vc sp' hown => ?_)) | (refine qEf ?_; try intro _)) <;> ((try simp only [kM, kN, kO]); refine tl_nil ?_; refine rNext ?_))))
      all_goals (first | (refine rStep2 (i := 8) (j := 12) ?_ ?_ <;> ((try refine qWant ?_); (first | (refine tl_appS (Y := be 8 x.last) rfl rfl hown (by first | exact hs7 | exact SIn.mono hs7 (by assumption)) (by (try simp [be_length]) <;> omega) rfl (fun va vc sp' hown => ?_)) | (refine tl_appS (Y := be 8 x.undo) rfl rfl hown (by first | exact hs8 | exact SIn.mono hs8 (by assumption)) (by (try simp [be_length]) <;> omega) rfl (fun va vc sp' hown => ?_)) | (refine tl_buildSlice_s rfl rfl rfl rfl (by simp) rfl rfl (fun bs => ?_); simp only [hst]) | (refine tl_appL (b := tB x.state) rfl rfl hown SrcV.lit (by (try simp [be_length]) <;> omega) rfl (fun va vc sp' hown => ?_)) | (refine qEf ?_; try intro _)) <;> ((try simp only [kM, kN, kO]); refine tl_nil ?_; refine rNext ?_))) | (refine rStep (i := 7) ?_; ((try refine qWant ?_); (first | (refine tl_is (.func 113) ?_; refine qC rfl rfl (highN_spec _ (x.last) 8 (by omega) (by decide)) ?_; rintro v ρ' L' hle ⟨hl7, a7, c7, rfl, hc7, hs7, rfl⟩ <;> (try simp only [kM, kN, kO])) | (refine tl_is (.func 113) ?_; refine qC rfl rfl (highN_spec _ (x.undo) 8 (by omega) (by decide)) ?_; rintro v ρ' L' hle ⟨hl8, a8, c8, rfl, hc8, hs8, rfl⟩ <;> (try simp only [kM, kN, kO])) | (refine qEf ?_; try intro _)) <;> ((try simp only [kM, kN, kO]); refine tl_nil ?_; refine rNext ?_))))
      all_goals (first | (refine rStep (i := 12) ?_; ((try refine qWant ?_); (first | (refine tl_buildSlice_s rfl rfl rfl rfl (by simp) rfl rfl (fun bs => ?_); simp only [hst]) | (refine qEf ?_; try intro _)) <;> ((try simp only [kM, kN, kO]); refine tl_nil ?_; refine rNext ?_))) | (refine rStep (i := 8) ?_; ((try refine qWant ?_); (first | (refine tl_appS (Y := be 8 x.last) rfl rfl hown (by first | exact hs7 | exact SIn.mono hs7 (by assumption)) (by (try simp [be_length]) <;> omega) rfl (fun va vc sp' hown => ?_)) | (refine tl_appS (Y := be 8 x.undo) rfl rfl hown (by first | exact hs8 | exact SIn.mono hs8 (by assumption)) (by (try simp [be_length]) <;> omega) rfl (fun va vc sp' hown => ?_)) | (refine tl_appL (b := tB x.state) rfl rfl hown SrcV.lit (by (try simp [be_length]) <;> omega) rfl (fun va vc sp' hown => ?_)) | (refine qEf ?_; try intro _)) <;> ((try simp only [kM, kN, kO]); refine tl_nil ?_; refine rNext ?_))))
      all_goals (refine rStep (i := 13) ?_; ((try refine qWant ?_); (first | (refine tl_appS (Y := be 8 x.last) rfl rfl hown (by first | exact hs7 | exact SIn.mono hs7 (by assumption)) (by (try simp [be_length]) <;> omega) rfl (fun va vc sp' hown => ?_)) | (refine tl_appS (Y := be 8 x.undo) rfl rfl hown (by first | exact hs8 | exact SIn.mono hs8 (by assumption)) (by (try simp [be_length]) <;> omega) rfl (fun va vc sp' hown => ?_)) | (refine tl_appL (b := tB x.state) rfl rfl hown SrcV.lit (by (try simp [be_length]) <;> omega) rfl (fun va vc sp' hown => ?_)) | (refine qEf ?_; try intro _)) <;> ((try simp only [kM, kN, kO]); refine tl_nil ?_; refine rNext ?_)))
      all_goals refine rFull ?_
      all_goals refine rAs 14 ?_
      all_goals refine rDone ?_
      all_goals (repeat' (first | (refine iBu ?_; refine tl_y (y_buildN rfl) rfl rfl ?_) | (refine i_op ?_; first | (refine i_qq ?_; refine qQ ?_) | refine qEf ?_) | refine tl_nil ?_ | (refine i_tc ?_; refine qTc ?_) | (refine i_te ?_; refine qTe ?_) | intro _))
      all_goals rw [← e1]
      all_goals have e2 : X ++ be 4 x.txn.toNat ++ be 8 x.first ++ be 8 x.last ++ be 8 x.undo ++ [tB x.state] = B ++ (r.txns.take (k + 1)).flatMap ckTB := by rw [← hmm]; simp [ckTB]
      all_goals rw [e2] at hown ⊢
      all_goals refine te_round_g (k + 1, _, _, sp') (⟨hlt, Hp.le_trans hle7 (Hp.le_trans hl5 (Hp.le_trans hl6 (Hp.le_trans hl7 hl8))), hown⟩) ev_le ev_le rfl tk inferInstance (by first | omega | (dsimp only; omega))
    · rw [show r.txns.take k = r.txns by rw [show k = r.txns.length by omega, List.take_length]] at hown ⊢
      have hρ := hle7
      obtain ⟨C1, hC1⟩ : ∃ C1, B ++ r.txns.flatMap ckTB = C1 := ⟨_, rfl⟩
      rw [hC1] at hown hfin ⊢
      have hC1l : C1.length ≤ 300 := by
        have := flatMap_le ckTB 29 r.txns (fun x hx => Nat.le_of_eq (ckTB_len x))
        rw [← hC1, List.length_append]; omega
      obtain ⟨va, vc, rfl, _⟩ := hown.slice
      repeat' (first | (refine tl_buildSlice_s rfl rfl rfl rfl (by simp) rfl rfl (fun bs => ?_); simp only [hbd]; refine tl_appL (b := UInt8.ofNat v.d.n) rfl rfl hown SrcV.lit (by (try simp [be_length]) <;> omega) rfl (fun va vc sp' hown => ?_)) | (refine iBu ?_; refine tl_y (y_buildN rfl) rfl rfl ?_) | (refine i_op ?_; first | (refine i_qq ?_; refine qQ ?_) | refine qEf ?_) | refine tl_nil ?_ | (refine i_tc ?_; refine qTc ?_) | (refine i_te ?_; refine qTe ?_) | intro _)
      obtain ⟨B2, hB2⟩ : ∃ B2, C1 ++ [UInt8.ofNat v.d.n] = B2 := ⟨_, rfl⟩
      rw [hB2] at hown hfin ⊢
      have hfin2 := hfin
      have hB2l : B2.length ≤ 400 := by rw [← hB2]; simp; omega
      rw [show ownC (.slice va B2.length vc) (B2.map u8c) sp' 5 = ownC (.slice va B2.length vc) ((B2 ++ (r.dirty.take 0).flatMap ckPB).map u8c) sp' 5 by simp]
      refine tc_loop_g [(2, _), (162, _), (163, _)] (fun (ζ : (Nat) × (Hp) × (Value) × (List Value)) => [(164, .int .i64 ζ.1), (3, ζ.2.2.1)]) (fun (ζ : (Nat) × (Hp) × (Value) × (List Value)) => ζ.2.1) (fun (ζ : (Nat) × (Hp) × (Value) × (List Value)) => [bytC ζ.2.2.1 (B2 ++ (r.dirty.take ζ.1).flatMap ckPB) ζ.2.2.2, [(rb, .cells ⟨recV v r⟩ 30 (0, 0))]]) (fun (ζ : (Nat) × (Hp) × (Value) × (List Value)) => ζ.1 ≤ v.d.n ∧ ρ.le ζ.2.1 ∧ OwnB ζ.2.2.1 (B2 ++ (r.dirty.take ζ.1).flatMap ckPB) ζ.2.2.2) (fun (ζ : (Nat) × (Hp) × (Value) × (List Value)) => v.d.n - ζ.1) ((0, ρ1, .slice va B2.length vc, sp')) (⟨Nat.zero_le _, hρ, by simpa using hown⟩) ev_le ev_le rfl tk ?_
      rintro ⟨k, ρ9, w2, sp2⟩ hI
      try simp only [List.cons_append, List.nil_append, List.append_assoc, List.append_eq] at hI ⊢
      try dsimp only at hI ⊢
      obtain ⟨hk, hle7, hown⟩ := hI
      clear hρ
      by_cases hlt : k < v.d.n
      · obtain ⟨b, off, C, T, fr, e1, hbb, hfit, hcc⟩ := (h.d.at'.mono hle7).get (show k < r.dirty.length by omega)
        have hts := flatMap_app ckPB r.dirty k (by omega)
        have hmem := List.getElem_mem (show k < r.dirty.length by omega)
        have hfl := flatMap_le ckPB 9 (r.dirty.take k) (fun x hx => Nat.le_of_eq (ckPB_len x))
        have htk : (r.dirty.take k).length ≤ 64 := by simp; omega
        obtain ⟨q1, q2⟩ := hL.di _ hmem
        generalize r.dirty[k]'(by omega) = x at *
        have hxl : (B2 ++ (r.dirty.take k).flatMap ckPB).length ≤ 20000 := by simp only [List.length_append]; omega
        have hmm : B2 ++ (r.dirty.take k).flatMap ckPB ++ ckPB x = B2 ++ (r.dirty.take (k + 1)).flatMap ckPB := by rw [hts]; simp
        generalize hX : B2 ++ (r.dirty.take k).flatMap ckPB = X at *
        obtain ⟨va, vc, rfl, _⟩ := hown.slice
        rw [e1]
        have hpg := tB_eq (t := x.page) (by omega) (by omega)
        repeat' (first | (refine iBu ?_; refine tl_y (y_buildN rfl) rfl rfl ?_) | (refine i_op ?_; first | (refine i_qq ?_; refine qQ ?_) | refine qEf ?_) | refine tl_nil ?_ | (refine i_tc ?_; refine qTc ?_) | (refine i_te ?_; refine qTe ?_) | intro _)
        refine tc_any (Stays _ _ ([[(_, .cells ⟨ckPV x⟩ 125 (0, 0))]])) (stays_of (hT := tk) (Hp.le_refl _)) ?_
        all_goals refine rMv 0 ?_
        all_goals refine rFa 1 ?_
        all_goals refine rLd 2 ?_
        all_goals refine rCv 3 ?_
        all_goals refine rFa 6 ?_
        all_goals refine rLd 7 ?_
        all_goals (refine rStep (i := 4) ?_; ((try refine qWant ?_); (first | (refine tl_buildSlice_s rfl rfl rfl rfl (by simp) rfl rfl (fun bs => ?_); simp only [hpg]) | (refine qEf ?_; try intro _)) <;> ((try simp only [kM, kN, kO]); refine tl_nil ?_; refine rNext ?_)))
        all_goals (refine rStep (i := 5) ?_; ((try refine qWant ?_); (first | (refine tl_appL (b := tB x.page) rfl rfl hown SrcV.lit (by (try simp [be_length]) <;> omega) rfl (fun va vc sp' hown => ?_)) | (refine tl_appS (Y := be 8 x.since) rfl rfl hown (by first | exact hs8 | exact SIn.mono hs8 (by assumption)) (by (try simp [be_length]) <;> omega) rfl (fun va vc sp' hown => ?_)) | (refine qEf ?_; try intro _)) <;> ((try simp only [kM, kN, kO]); refine tl_nil ?_; refine rNext ?_)))
        all_goals (refine rStep (i := 8) ?_; ((try refine qWant ?_); (first | (refine tl_is (.func 113) ?_; refine qC rfl rfl (highN_spec _ (x.since) 8 (by omega) (by decide)) ?_; rintro v ρ' L' hle ⟨hl8, a8, c8, rfl, hc8, hs8, rfl⟩ <;> (try simp only [kM, kN, kO])) | (refine qEf ?_; try intro _)) <;> ((try simp only [kM, kN, kO]); refine tl_nil ?_; refine rNext ?_)))
        all_goals (refine rStep (i := 9) ?_; ((try refine qWant ?_); (first | (refine tl_appL (b := tB x.page) rfl rfl hown SrcV.lit (by (try simp [be_length]) <;> omega) rfl (fun va vc sp' hown => ?_)) | (refine tl_appS (Y := be 8 x.since) rfl rfl hown (by first | exact hs8 | exact SIn.mono hs8 (by assumption)) (by (try simp [be_length]) <;> omega) rfl (fun va vc sp' hown => ?_)) | (refine qEf ?_; try intro _)) <;> ((try simp only [kM, kN, kO]); refine tl_nil ?_; refine rNext ?_)))
        all_goals refine rFull ?_
        all_goals refine rAs 10 ?_
        all_goals refine rDone ?_
        all_goals (repeat' (first | (refine iBu ?_; refine tl_y (y_buildN rfl) rfl rfl ?_) | (refine i_op ?_; first | (refine i_qq ?_; refine qQ ?_) | refine qEf ?_) | refine tl_nil ?_ | (refine i_tc ?_; refine qTc ?_) | (refine i_te ?_; refine qTe ?_) | intro _))
        all_goals rw [← e1]
        all_goals have e2 : X ++ [tB x.page] ++ be 8 x.since = B2 ++ (r.dirty.take (k + 1)).flatMap ckPB := by rw [← hmm]; simp [ckPB]
        all_goals rw [e2] at hown ⊢
        all_goals refine te_round_g (k + 1, _, _, sp') (⟨hlt, Hp.le_trans hle7 hl8, hown⟩) ev_le ev_le rfl tk inferInstance (by first | omega | (dsimp only; omega))
      · rw [show r.dirty.take k = r.dirty by rw [show k = r.dirty.length by omega, List.take_length]] at hown ⊢
        have hρ := hle7
        rw [hfin2] at hown ⊢
        obtain ⟨va, vc, rfl, _⟩ := hown.slice
        repeat' (first | (refine iBu ?_; refine tl_y (y_buildN rfl) rfl rfl ?_) | (refine i_op ?_; first | (refine i_qq ?_; refine qQ ?_) | refine qEf ?_) | refine tl_nil ?_ | (refine i_tc ?_; refine qTc ?_) | (refine i_te ?_; refine qTe ?_) | intro _)
        refine te_freeze (bytC (.slice va (recB r).length vc) (recB r) sp2) (h := by repeat (first | exact rem_here' | apply rem_there')) (fun ρ6 hle6 hfz => ?_)
        obtain ⟨a6, c6, e6, hc6, hs6⟩ := hown.sIn hfz
        cases e6
        exact qE (L' := []) ⟨Hp.le_trans hρ hle6, va, vc, rfl, hc6, hs6, rfl⟩
  have hfin : H = recB r := by unfold recB recTB; rw [hHB, if_neg k2, if_neg k3, if_neg k4, if_neg k5, if_neg k9, List.append_nil]
  rw [hfin] at hown ⊢
  repeat' (first | (refine iBu ?_; refine tl_y (y_buildN rfl) rfl rfl ?_) | (refine i_op ?_; first | (refine i_qq ?_; refine qQ ?_) | refine qEf ?_) | refine tl_nil ?_ | (refine i_tc ?_; refine qTc ?_) | (refine i_te ?_; refine qTe ?_) | intro _)
  refine te_freeze (bytC (.slice va (recB r).length vc) (recB r) sp) (h := by repeat (first | exact rem_here' | apply rem_there')) (fun ρ6 hle6 hfz => ?_)
  obtain ⟨a6, c6, e6, hc6, hs6⟩ := hown.sIn hfz
  cases e6
  exact qE (L' := []) ⟨Hp.le_trans hρ hle6, va, vc, rfl, hc6, hs6, rfl⟩
end Go.Proofs.E

