/- Records of layer 12 as data, their bytes, what their functions come to, and which of them may be. Part 8 of 18. -/
import Derived.Test.YtbchgeledcfklaaGreatJ7
namespace Go.Proofs.E
open Go
set_option linter.unusedVariables false
set_option linter.unusedSimpArgs false
set_option linter.unusedSectionVars false
set_option maxRecDepth 4000
set_option maxHeartbeats 1000000
attribute [local irreducible] Yl TL TC TE Spec YSpec R1 Hp.le EnvLe TS TR YS Stays
/-! ## codec: bytes of rows -/
def tB (t : Int) : UInt8 := UInt8.ofNat t.toNat
def keyB (t : Int) (id : Nat) : List UInt8 := tB t :: be 2 id
def vN (v : Int) : Nat := (IntKind.u64.wrap v).toNat
theorem vN_eq (v : Int) : IntKind.u64.wrap v = (vN v : Nat) := by
  have : 0 ≤ IntKind.u64.wrap v := by simp only [IntKind.wrap, IntKind.bits, IntKind.signed, Bool.false_and, Bool.false_eq_true, if_false]; omega
  simp [vN]; omega
theorem vN_lt (v : Int) : vN v < 18446744073709551616 := by
  have : IntKind.u64.wrap v < 18446744073709551616 := by simp only [IntKind.wrap, IntKind.bits, IntKind.signed, Bool.false_and, Bool.false_eq_true, if_false]; omega
  have h := vN_eq v
  omega
def rowB (r : Row) : List UInt8 := keyB r.t r.id ++ (be 8 (vN r.val) ++ (UInt8.ofNat r.note.length :: r.note))
theorem tB_eq {t : Int} (h0 : 0 ≤ t) (h1 : t < 256) : Value.int .u8 t = u8c (tB t) := by
  obtain ⟨n, rfl⟩ : ∃ n : Nat, t = n := ⟨t.toNat, by omega⟩
  simp only [u8c, tB, Int.toNat_natCast, UInt8.toNat_ofNat']
  congr 1
  have e : (2 : Nat) ^ 8 = 256 := by decide
  rw [e]
  omega
theorem key_spec (ρ : Hp) (v : Value) (n : Nat) (l : List UInt8) (sp : List Value) (hown : OwnS v n (l.map u8c) sp 1) (hn : n ≤ 100000) (t : Int) (id : Nat) (h0 : 0 ≤ t) (h3 : t < 256) (hid : id < 65536) :
    Spec Tryz.prog 270 [v, .agg ⟨keyV t id⟩] ρ [ownC v (l.map u8c) sp 5] (fun r ρ' L' => ρ.le ρ' ∧ ∃ sp', OwnS r (n + 3) ((l ++ keyB t id).map u8c) sp' 1 ∧ L' = [ownC r ((l ++ keyB t id).map u8c) sp' 5]) := by
  have hl : l.length = n := by obtain ⟨_, _, _, h⟩ := hown.len; simpa using h
  refine spec_enter Tryz.func270 rfl rfl rfl fun u R => ?_
  simp only [argsE, List.cons_append, List.nil_append]
  repeat' (first | (refine i_op ?_; first | (refine i_qq ?_; refine qQ ?_) | refine qEf ?_) | refine tl_nil ?_ | (refine i_tc ?_; refine qTc ?_) | (refine i_te ?_; refine qTe ?_) | intro _)
  rename_i b3
  refine tc_any (Stays _ _ ([[(b3, .cells ⟨keyV t id⟩ 58 (0, 0))]])) (stays_of (hT := tk) (Hp.le_refl _)) ?_
  all_goals refine rMv 0 ?_
  all_goals refine rFa 1 ?_
  all_goals refine rLd 2 ?_
  all_goals refine rCv 3 ?_
  all_goals refine rFa 6 ?_
  all_goals refine rLd 7 ?_
  all_goals (refine rStep (i := 4) ?_; ((try refine qWant ?_); (first | (refine tl_buildSlice_s rfl rfl rfl rfl (by simp) rfl rfl (fun _ => ?_); simp only [tB_eq h0 h3]) | (refine qEf ?_; try intro _)) <;> ((try simp only [kM, kN, kO]); refine tl_nil ?_; refine rNext ?_)))
  all_goals (refine rStep (i := 5) ?_; ((try refine qWant ?_); (first | (refine tl_app (ys := [u8c (tB t)]) (m := 1) rfl rfl hown (hR := by infer_instance) SrcV.lit rfl rfl (by decide) rfl (by omega) (by omega) rfl (fun v' sp' hown' => ?_); rw [show l.map u8c ++ [u8c (tB t)] = (l ++ [tB t]).map u8c by simp] at hown' ⊢; refine tl_freeze _ (h := Rem.here) (fun ρ2 hle2 hfz => ?_); obtain ⟨a', c', rfl, hc', hs⟩ := hown'.sIn hfz) | (refine qEf ?_; try intro _)) <;> ((try simp only [kM, kN, kO]); refine tl_nil ?_; refine rNext ?_)))
  all_goals (refine rStep (i := 8) ?_; ((try refine qWant ?_); (first | (refine tl_is (.func 229) ?_; refine qC rfl rfl (put16_spec _ a' _ c' _ hs id hid (by omega)) ?_; rintro v ρ' L' hle ⟨rfl, sp2, hown2, rfl⟩ <;> (try simp only [kM, kN, kO])) | (refine qEf ?_; try intro _)) <;> ((try simp only [kM, kN, kO]); refine tl_nil ?_; refine rNext ?_)))
  all_goals refine rFull ?_
  all_goals refine rAs 9 ?_
  all_goals refine rDone ?_
  have e : l ++ [tB t] ++ be 2 id = l ++ keyB t id := by rw [List.append_assoc]; rfl
  rw [e] at hown2 ⊢
  repeat' (first | (refine i_op ?_; first | (refine i_qq ?_; refine qQ ?_) | refine qEf ?_) | refine tl_nil ?_ | (refine i_tc ?_; refine qTc ?_) | (refine i_te ?_; refine qTe ?_) | intro _)
  exact qE ⟨hle2, sp2, hown2, rfl⟩
theorem rowOk_iff {r : Row} (h : rowOk r = true) : 0 ≤ r.t ∧ r.t < 3 ∧ r.note.length ≤ 8 := by
  have := of_decide_eq_true h
  exact ⟨this.1.1, this.1.2, this.2⟩
theorem lenB {n : Nat} (h : n ≤ 200) : Value.int .u8 (n : Int) = u8c (UInt8.ofNat n) := by
  simp only [u8c, UInt8.toNat_ofNat']
  congr 1
  have e : (2 : Nat) ^ 8 = 256 := by decide
  rw [e]
  omega
theorem claid_spec (ρ : Hp) (v : Value) (n : Nat) (l : List UInt8) (sp : List Value) (hown : OwnS v n (l.map u8c) sp 1) (hn : n ≤ 1000) (r : Row) (hr : rowOk r = true) (hid : r.id < 65536) :
    Spec Tryz.prog 256 [v, .agg ⟨rowV r⟩] ρ [ownC v (l.map u8c) sp 5] (fun q ρ' L' => ρ.le ρ' ∧ ∃ sp', OwnS q (n + (rowB r).length) ((l ++ rowB r).map u8c) sp' 1 ∧ L' = [ownC q ((l ++ rowB r).map u8c) sp' 5]) := by
  obtain ⟨h0, h3, h8⟩ := rowOk_iff hr
  have hl : l.length = n := by obtain ⟨_, _, _, h⟩ := hown.len; simpa using h
  have hvl := vN_lt r.val
  have hkb : (keyB r.t r.id).length = 3 := by simp [keyB, be_length]
  have hlb := lenB (n := r.note.length) (by omega)
  refine spec_enter Tryz.func256 rfl rfl rfl fun u R => ?_
  simp only [argsE, List.cons_append, List.nil_append]
  repeat' (first | (refine i_op ?_; first | (refine i_qq ?_; refine qQ ?_) | refine qEf ?_) | refine tl_nil ?_ | (refine i_tc ?_; refine qTc ?_) | (refine i_te ?_; refine qTe ?_) | intro _)
  rename_i b3
  refine tc_any (Stays _ _ ([[(b3, .cells ⟨rowV r⟩ 60 (0, 0))]])) (stays_of (hT := tk) (Hp.le_refl _)) ?_
  all_goals refine rMv 0 ?_
  all_goals refine rFa 1 ?_
  all_goals refine rLd 2 ?_
  all_goals refine rFa 4 ?_
  all_goals refine rLd 5 ?_
  all_goals refine rCv 6 ?_
  all_goals (refine rStep (i := 3) ?_; ((try refine qWant ?_); (first | (simp only [vN_eq]; refine tl_is (.func 270) ?_; refine qC rfl rfl (key_spec _ v n l sp hown (by omega) r.t r.id h0 (by omega) hid) ?_; rintro v1 ρ1 L1 hle0 ⟨hle1, sp1, hown1, rfl⟩; simp only [List.cons_append, List.nil_append]; refine tl_freeze _ (h := Rem.here) (fun ρ2 hle2 hfz => ?_); obtain ⟨a1, c1, rfl, hc1, hs1⟩ := hown1.sIn hfz) | (refine qEf ?_; try intro _)) <;> ((try simp only [kM, kN, kO]); refine tl_nil ?_; refine rNext ?_)))
  all_goals (refine rStep (i := 7) ?_; ((try refine qWant ?_); (first | (refine tl_is (.func 225) ?_; refine qC rfl rfl (put64_spec _ a1 _ c1 _ hs1 (vN r.val) hvl (by omega)) ?_; rintro v ρ' L' hle ⟨rfl, sp3, hown3, rfl⟩ <;> (try simp only [kM, kN, kO])) | (refine qEf ?_; try intro _)) <;> ((try simp only [kM, kN, kO]); refine tl_nil ?_; refine rNext ?_)))
  all_goals refine rFull ?_
  all_goals refine rAs 8 ?_
  all_goals refine rDone ?_
  repeat' (first | (refine i_op ?_; first | (refine i_qq ?_; refine qQ ?_) | refine qEf ?_) | refine tl_nil ?_ | (refine i_tc ?_; refine qTc ?_) | (refine i_te ?_; refine qTe ?_) | intro _)
  refine tc_any (Stays _ _ ([[(b3, .cells ⟨rowV r⟩ 60 (0, 0))]])) (stays_of (hT := tk) (Hp.le_refl _)) ?_
  all_goals refine rMv 0 ?_
  all_goals refine rFa 1 ?_
  all_goals refine rLd 2 ?_
  all_goals refine rBi 3 ?_
  all_goals refine rCv 4 ?_
  all_goals refine rFa 7 ?_
  all_goals refine rLd 8 ?_
  all_goals (refine rStep (i := 5) ?_; ((try refine qWant ?_); (first | (refine tl_buildSlice_s rfl rfl rfl rfl (by simp) rfl rfl (fun _ => ?_); simp only [hlb]) | (refine qEf ?_; try intro _)) <;> ((try simp only [kM, kN, kO]); refine tl_nil ?_; refine rNext ?_)))
  all_goals (refine rStep (i := 6) ?_; ((try refine qWant ?_); (first | (refine tl_app (ys := [u8c (UInt8.ofNat r.note.length)]) (m := 1) rfl rfl hown3 (hR := by infer_instance) SrcV.lit rfl rfl (by decide) rfl (by omega) (by omega) rfl (fun v4 sp4 hown4 => ?_)) | (refine tl_app_str (l := r.note) rfl rfl hown4 (hR := by infer_instance) (by omega) rfl (fun v5 sp5 hown5 => ?_)) | (refine qEf ?_; try intro _)) <;> ((try simp only [kM, kN, kO]); refine tl_nil ?_; refine rNext ?_)))
  all_goals (refine rStep (i := 9) ?_; ((try refine qWant ?_); (first | (refine tl_app (ys := [u8c (UInt8.ofNat r.note.length)]) (m := 1) rfl rfl hown3 (hR := by infer_instance) SrcV.lit rfl rfl (by decide) rfl (by omega) (by omega) rfl (fun v4 sp4 hown4 => ?_)) | (refine tl_app_str (l := r.note) rfl rfl hown4 (hR := by infer_instance) (by omega) rfl (fun v5 sp5 hown5 => ?_)) | (refine qEf ?_; try intro _)) <;> ((try simp only [kM, kN, kO]); refine tl_nil ?_; refine rNext ?_)))
  all_goals refine rFull ?_
  all_goals refine rAs 10 ?_
  all_goals refine rDone ?_
  have e : (l ++ keyB r.t r.id ++ be 8 (vN r.val)).map u8c ++ [u8c (UInt8.ofNat r.note.length)] ++ r.note.map u8c = (l ++ rowB r).map u8c := by simp [rowB]
  have e2 : n + 3 + 8 + 1 + r.note.length = n + (rowB r).length := by simp [rowB, hkb, be_length]; omega
  rw [e] at hown5 ⊢
  rw [e2] at hown5
  repeat' (first | (refine i_op ?_; first | (refine i_qq ?_; refine qQ ?_) | refine qEf ?_) | refine tl_nil ?_ | (refine i_tc ?_; refine qTc ?_) | (refine i_te ?_; refine qTe ?_) | intro _)
  exact qE ⟨Hp.le_trans hle1 hle2, sp5, hown5, rfl⟩
theorem rowE_spec (ρ : Hp) (r : Row) (hid : r.id < 65536) :
    Spec Tryz.prog 228 [.agg ⟨rowV r⟩] ρ [] (fun v ρ' L' => ρ.le ρ' ∧ ∃ a n c, v = .tuple ⟨[.slice a n c, .int .i64 (if rowOk r then 0 else 151)]⟩ ∧ n ≤ c ∧ SIn ρ' u8c a n (if rowOk r then rowB r else []) ∧ L' = []) := by
  have hck := fun ρ => checkRow_spec ρ r
  refine spec_enter Tryz.func228 rfl rfl rfl fun u R => ?_
  simp only [argsE, List.cons_append, List.nil_append]
  cases hok : rowOk r
  · simp only [hok, Bool.false_eq_true, if_false] at hck ⊢
    repeat' (first | (refine tl_is (.func 238) ?_; refine qC rfl rfl (hck _) ?_; rintro v ρ' L' hle ⟨rfl, rfl, rfl⟩ <;> (try simp only [kM, kN, kO])) | (refine i_op ?_; first | (refine i_qq ?_; refine qQ ?_) | refine qEf ?_) | refine tl_nil ?_ | (refine i_tc ?_; refine qTc ?_) | (refine i_te ?_; refine qTe ?_) | intro _)
    exact qE ⟨Hp.le_refl _, none, 0, 0, rfl, Nat.le_refl _, SIn.nil, rfl⟩
  · simp only [hok, if_true] at hck ⊢
    repeat' (first | (refine tl_is (.func 238) ?_; refine qC rfl rfl (hck _) ?_; rintro v ρ' L' hle ⟨rfl, rfl, rfl⟩ <;> (try simp only [kM, kN, kO])) | (refine tl_is (.func 256) ?_; refine tl_call rfl rfl (claid_spec _ (.slice none 0 0) 0 [] [] (OwnS.nil 1) (by omega) r hok hid) (take_cons' rem_nil' take_nil') rfl ?_; rintro v1 ρ1 L1 hle0 ⟨hle1, sp1, hown1, rfl⟩; simp only [List.cons_append, List.nil_append, Nat.zero_add] at hown1 ⊢; refine tl_freeze _ (h := Rem.here) (fun ρ2 hle2 hfz => ?_); obtain ⟨a1, c1, rfl, hc1, hs1⟩ := hown1.sIn hfz) | (refine i_op ?_; first | (refine i_qq ?_; refine qQ ?_) | refine qEf ?_) | refine tl_nil ?_ | (refine i_tc ?_; refine qTc ?_) | (refine i_te ?_; refine qTe ?_) | intro _)
    exact qE ⟨Hp.le_trans hle1 hle2, a1, _, c1, rfl, hc1, hs1, rfl⟩
end Go.Proofs.E

namespace Go.Proofs.E
open Go
set_option linter.unusedVariables false
set_option linter.unusedSimpArgs false
set_option linter.unusedSectionVars false
set_option maxRecDepth 4000
set_option maxHeartbeats 1000000
attribute [local irreducible] Yl TL TC TE Spec YSpec R1 Hp.le EnvLe TS TR YS Stays
def kidB (k : Kid) : List UInt8 := keyB k.t k.id ++ [tB k.page]
def cntB (c : Cont) : List UInt8 := if c.kind = 0 then [] else [UInt8.ofNat (c.rows.length + c.kids.length)]
def contB (c : Cont) : List UInt8 := tB c.kind :: cntB c ++ (c.rows.flatMap rowB ++ c.kids.flatMap kidB)
theorem risesB_true {α : Type} {most : Nat} {right : Nat → α → Bool} {lt : α → α → Bool} {l : List α} : ∀ {k : Nat}, risesB most right lt l k = true → k ≤ l.length → l.length ≤ most ∧ ∀ i (h : i < l.length), i < k → right i l[i] = true ∧ (i = 0 ∨ lt (l[i - 1]'(by omega)) l[i] = true)
  | 0, h, _ => ⟨of_decide_eq_true h, fun i _ hi => by omega⟩
  | k + 1, h, hk => by
    rw [risesB_succ (show k < l.length by omega), Bool.and_eq_true, Bool.and_eq_true] at h
    obtain ⟨h1, h2, h3⟩ := h
    obtain ⟨g1, g2⟩ := risesB_true h1 (by omega)
    refine ⟨g1, fun i hi hik => ?_⟩
    by_cases e : i < k
    · exact g2 i hi e
    · have : i = k := by omega
      subst this
      refine ⟨h2, ?_⟩
      simpa using h3
structure ContOk (c : Cont) : Prop where
  kind : c.kind = 0 ∧ c.rows = [] ∧ c.kids = [] ∨ c.kind = 1 ∧ c.kids = [] ∨ c.kind = 2 ∧ c.rows = [] ∧ 1 < c.kids.length
  rl : c.rows.length ≤ 4
  kl : c.kids.length ≤ 4
  row : ∀ r ∈ c.rows, rowOk r = true
  kid : ∀ k ∈ c.kids, (0 ≤ k.t ∧ k.t < 3) ∧ 0 < k.page ∧ k.page < 64
theorem contOk_facts {c : Cont} (h : contOk c = true) : ContOk c := by
  obtain ⟨kind, rows, kids⟩ := c
  unfold contOk at h
  dsimp only at h
  split at h
  · rename_i hk
    have hz := of_decide_eq_true h
    have h1 : rows = [] := List.eq_nil_of_length_eq_zero (by omega)
    have h2 : kids = [] := List.eq_nil_of_length_eq_zero (by omega)
    subst h1; subst h2
    exact ⟨.inl ⟨hk, rfl, rfl⟩, by simp, by simp, by simp, by simp⟩
  · split at h
    · rename_i hk
      rw [Bool.and_eq_true] at h
      have h2 : kids = [] := List.eq_nil_of_length_eq_zero (of_decide_eq_true h.1)
      subst h2
      obtain ⟨g1, g2⟩ := risesB_true h.2 (Nat.le_refl _)
      refine ⟨.inr (.inl ⟨hk, rfl⟩), g1, by simp, fun r hr => ?_, by simp⟩
      obtain ⟨i, hi, rfl⟩ := List.mem_iff_getElem.1 hr
      exact (g2 i hi hi).1
    · split at h
      · rename_i hk
        rw [Bool.and_eq_true, Bool.and_eq_true] at h
        have h1 : rows = [] := List.eq_nil_of_length_eq_zero (of_decide_eq_true h.1)
        subst h1
        obtain ⟨g1, g2⟩ := risesB_true h.2.2 (Nat.le_refl _)
        refine ⟨.inr (.inr ⟨hk, rfl, of_decide_eq_true h.2.1⟩), by simp, g1, by simp, fun k hk => ?_⟩
        obtain ⟨i, hi, rfl⟩ := List.mem_iff_getElem.1 hk
        have := of_decide_eq_true (g2 i hi hi).1
        exact ⟨this.2.2.2.1, this.2.1, this.2.2.1⟩
      · cases h
theorem rowB_len {r : Row} (h : rowOk r = true) : (rowB r).length = 12 + r.note.length := by simp [rowB, keyB, be_length]; omega
theorem rowB_le {r : Row} (h : rowOk r = true) : (rowB r).length ≤ 20 := by rw [rowB_len h]; have := (rowOk_iff h).2.2; omega
theorem kidB_len (k : Kid) : (kidB k).length = 4 := by simp [kidB, keyB, be_length]
theorem flatMap_le {α : Type} (f : α → List UInt8) (m : Nat) : ∀ (l : List α), (∀ x ∈ l, (f x).length ≤ m) → (l.flatMap f).length ≤ l.length * m
  | [], _ => by simp
  | x :: r, h => by
    have h1 := h x (by simp)
    have ih := flatMap_le f m r (fun y hy => h y (by simp [hy]))
    simp only [List.flatMap_cons, List.length_append, List.length_cons, Nat.add_mul]; omega
theorem flatMap_take_succ {α : Type} (f : α → List UInt8) (l : List α) (k : Nat) (h : k < l.length) : (l.take (k + 1)).flatMap f = (l.take k).flatMap f ++ f l[k] := by
  rw [List.take_succ_eq_append_getElem h, List.flatMap_append]; simp
theorem contE_spec (ρ : Hp) (w : CV) (c : Cont) (h : CIn ρ w c.rows c.kids) (hir : ∀ r ∈ c.rows, r.id < 65536) (hik : ∀ k ∈ c.kids, k.id < 65536) :
    Spec Tryz.prog 255 [.agg ⟨contV c.kind w⟩] ρ [] (fun v ρ' L' => ρ.le ρ' ∧ ∃ a n c', v = .tuple ⟨[.slice a n c', .int .i64 (if contOk c then 0 else 160)]⟩ ∧ n ≤ c' ∧ SIn ρ' u8c a n (if contOk c then contB c else []) ∧ L' = []) := by
  have hck := fun ρ h => check_spec ρ w c h
  refine spec_enter Tryz.func255 rfl rfl rfl fun u R => ?_
  simp only [argsE, List.cons_append, List.nil_append]
  cases hok : contOk c
  · simp only [hok, Bool.false_eq_true, if_false] at hck ⊢
    repeat' (first | (refine tl_is (.func 236) ?_; refine qC rfl rfl (hck _ h) ?_; rintro v ρ' L' hle ⟨rfl, rfl, rfl⟩ <;> (try simp only [kM, kN, kO])) | (refine i_op ?_; first | (refine i_qq ?_; refine qQ ?_) | refine qEf ?_) | refine tl_nil ?_ | (refine i_tc ?_; refine qTc ?_) | (refine i_te ?_; refine qTe ?_) | intro _)
    exact qE ⟨Hp.le_refl _, none, 0, 0, rfl, Nat.le_refl _, SIn.nil, rfl⟩
  · simp only [hok, if_true] at hck ⊢
    obtain ⟨hkind, hrl, hkl, hrow, hkid⟩ := contOk_facts hok
    have hk03 : 0 ≤ c.kind ∧ c.kind < 3 := by omega
    obtain ⟨kind, rows, kids⟩ := c
    obtain ⟨ra, rn, rc, ka, kn, kc⟩ := w
    obtain ⟨hr, hk, hrb, hkb, hrc, hkc⟩ := h
    dsimp only at hrc hkc hr hk hrb hkb hrow hkid hrl hkl hk03 hir hik ⊢
    have hrn := hr.len
    have hkn := hk.len
    have hcnt := lenB (n := rn + kn) (by omega)
    have hkB := tB_eq (t := kind) (by omega) (by omega)
    dsimp only [contV] at hck ⊢
    by_cases hk0 : kind = 0
    · obtain ⟨B0, hB0⟩ : ∃ B0, tB kind :: cntB ⟨kind, rows, kids⟩ = B0 := ⟨_, rfl⟩
      have hX : B0 = [tB kind] := by rw [← hB0]; simp [cntB, hk0]
      have hBl : B0.length ≤ 2 := by rw [hX]; simp
      repeat' (first | (refine tl_is (.func 236) ?_; refine qC rfl rfl (hck _ ⟨hr, hk, hrb, hkb, hrc, hkc⟩) ?_; rintro v ρ' L' hle ⟨rfl, rfl, rfl⟩ <;> (try simp only [kM, kN, kO])) | (refine tl_buildSlice_s rfl rfl rfl rfl (by simp) rfl rfl (fun _ => ?_); simp only [hkB]) | (refine i_op ?_; first | (refine i_qq ?_; refine qQ ?_) | refine qEf ?_) | refine tl_nil ?_ | (refine i_tc ?_; refine qTc ?_) | (refine i_te ?_; refine qTe ?_) | intro _)
      rename_i b1 b2
      rw [show [u8c (tB kind)] = B0.map u8c by rw [hX]; rfl, own_chunk b2 1 1]
      have hown0 : OwnS (.slice (some ⟨b2, 0, none⟩) 1 1) B0.length (B0.map u8c) [] 1 := ⟨.inr ⟨b2, 1, by rw [hX]; rfl, by simp, by simp [hX], by simp [hX]⟩⟩
      generalize Value.slice (some ⟨b2, 0, none⟩) 1 1 = v0 at *
      rw [show B0.map u8c = (B0 ++ (rows.take 0).flatMap rowB).map u8c by simp]
      refine tc_loop_g [(1, _), (2, _), (3, _), (34, _), (35, _)] (fun (ζ : (Nat) × (Hp) × (Value) × (List Value)) => [(36, .int .i64 ζ.1), (5, ζ.2.2.1)]) (fun (ζ : (Nat) × (Hp) × (Value) × (List Value)) => ζ.2.1) (fun (ζ : (Nat) × (Hp) × (Value) × (List Value)) => [ownC ζ.2.2.1 ((B0 ++ (rows.take ζ.1).flatMap rowB).map u8c) ζ.2.2.2 5, [(b1, .cells ⟨[.int .i64 kind, .slice ra rn rc, .slice ka kn kc]⟩ 66 (0, 0))]]) (fun (ζ : (Nat) × (Hp) × (Value) × (List Value)) => ζ.1 ≤ rn ∧ ρ'.le ζ.2.1 ∧ OwnS ζ.2.2.1 (B0 ++ (rows.take ζ.1).flatMap rowB).length ((B0 ++ (rows.take ζ.1).flatMap rowB).map u8c) ζ.2.2.2 1) (fun (ζ : (Nat) × (Hp) × (Value) × (List Value)) => rn - ζ.1) ((0, ρ', v0, [])) (⟨Nat.zero_le _, Hp.le_refl _, by simpa using hown0⟩) ev_le ev_le rfl tk ?_
      rintro ⟨k, ρ1, v, sp⟩ hI
      try simp only [List.cons_append, List.nil_append, List.append_assoc, List.append_eq] at hI ⊢
      try dsimp only at hI ⊢
      obtain ⟨hkn0, hle1, hown⟩ := hI
      by_cases hlt : k < rn
      · obtain ⟨b, off, C, T, fr, rfl, hb, hfit, hc⟩ := (hr.mono hle1).get (show k < rows.length by omega)
        have hmem : rows[k]'(by omega) ∈ rows := List.getElem_mem _
        have hro := hrow _ hmem
        have hid := hir _ hmem
        have hts := flatMap_take_succ rowB rows k (by omega)
        have hfl := flatMap_le rowB 20 (rows.take k) (fun x hx => rowB_le (hrow x (List.mem_of_mem_take hx)))
        have htl : (rows.take k).length ≤ 4 := by simp; omega
        have hXl : (B0 ++ (rows.take k).flatMap rowB).length ≤ 100 := by simp only [List.length_append]; omega
        have hll : (B0 ++ (rows.take k).flatMap rowB).length + (rowB (rows[k]'(by omega))).length = (B0 ++ (rows.take (k + 1)).flatMap rowB).length := by rw [hts]; simp; omega
        have hmm : B0 ++ (rows.take k).flatMap rowB ++ rowB (rows[k]'(by omega)) = B0 ++ (rows.take (k + 1)).flatMap rowB := by rw [hts]; simp
        generalize rows[k]'(by omega) = x at *
        repeat' (first | (refine tl_is (.func 256) ?_; refine qC rfl rfl (claid_spec _ v _ _ sp hown (by omega) x hro hid) ?_; rintro v2 ρ2 L2 hle0 ⟨hle2, sp2, hown2, rfl⟩; simp only [List.cons_append, List.nil_append, hmm]; rw [hmm, hll] at hown2) | (refine i_op ?_; first | (refine i_qq ?_; refine qQ ?_) | refine qEf ?_) | refine tl_nil ?_ | (refine i_tc ?_; refine qTc ?_) | (refine i_te ?_; refine qTe ?_) | intro _)
        refine te_round_g (k + 1, _, v2, sp2) (⟨hlt, Hp.le_trans hle1 hle2, hown2⟩) ev_le ev_le rfl tk inferInstance (by first | omega | (dsimp only; omega))
      · have hk2 : k = rn := by omega
        subst hk2
        rw [List.take_of_length_le (by omega)] at hown ⊢
        repeat' (first | (refine i_op ?_; first | (refine i_qq ?_; refine qQ ?_) | refine qEf ?_) | refine tl_nil ?_ | (refine i_tc ?_; refine qTc ?_) | (refine i_te ?_; refine qTe ?_) | intro _)
        rw [show (B0 ++ rows.flatMap rowB).map u8c = (B0 ++ (rows.flatMap rowB ++ (kids.take 0).flatMap kidB)).map u8c by simp]
        refine tc_loop_g [(2, _), (3, _), (45, _), (46, _)] (fun (ζ : (Nat) × (Hp) × (Value) × (List Value)) => [(47, .int .i64 ζ.1), (5, ζ.2.2.1)]) (fun (ζ : (Nat) × (Hp) × (Value) × (List Value)) => ζ.2.1) (fun (ζ : (Nat) × (Hp) × (Value) × (List Value)) => [ownC ζ.2.2.1 ((B0 ++ (rows.flatMap rowB ++ (kids.take ζ.1).flatMap kidB)).map u8c) ζ.2.2.2 5]) (fun (ζ : (Nat) × (Hp) × (Value) × (List Value)) => ζ.1 ≤ kn ∧ ρ1.le ζ.2.1 ∧ OwnS ζ.2.2.1 (B0 ++ (rows.flatMap rowB ++ (kids.take ζ.1).flatMap kidB)).length ((B0 ++ (rows.flatMap rowB ++ (kids.take ζ.1).flatMap kidB)).map u8c) ζ.2.2.2 1) (fun (ζ : (Nat) × (Hp) × (Value) × (List Value)) => kn - ζ.1) ((0, ρ1, v, sp)) (⟨Nat.zero_le _, Hp.le_refl _, by simpa using hown⟩) ev_le ev_le rfl tk ?_
        rintro ⟨j, ρ2, v, sp⟩ hI
        try simp only [List.cons_append, List.nil_append, List.append_assoc, List.append_eq] at hI ⊢
        try dsimp only at hI ⊢
        have hfl := flatMap_le rowB 20 rows (fun x hx => rowB_le (hrow x hx))
        obtain ⟨hj0, hle3, hown3⟩ := hI
        by_cases hlj : j < kn
        · obtain ⟨b, off, C, T, fr, rfl, hb, hfit, hc⟩ := (hk.mono (Hp.le_trans hle1 hle3)).get (show j < kids.length by omega)
          have hmem : kids[j]'(by omega) ∈ kids := List.getElem_mem _
          have hko := hkid _ hmem
          have hid := hik _ hmem
          have hts := flatMap_take_succ kidB kids j (by omega)
          have hfk := flatMap_le kidB 4 (kids.take j) (fun x hx => Nat.le_of_eq (kidB_len x))
          have htl : (kids.take j).length ≤ 4 := by simp; omega
          have hXl : (B0 ++ (rows.flatMap rowB ++ (kids.take j).flatMap kidB)).length ≤ 200 := by simp only [List.length_append]; omega
          have hmm : B0 ++ (rows.flatMap rowB ++ (kids.take j).flatMap kidB) ++ keyB (kids[j]'(by omega)).t (kids[j]'(by omega)).id ++ [tB (kids[j]'(by omega)).page] = B0 ++ (rows.flatMap rowB ++ (kids.take (j + 1)).flatMap kidB) := by rw [hts]; simp [kidB]
          have hll : (B0 ++ (rows.flatMap rowB ++ (kids.take j).flatMap kidB)).length + 3 + 1 = (B0 ++ (rows.flatMap rowB ++ (kids.take (j + 1)).flatMap kidB)).length := by rw [hts]; simp [kidB_len]; omega
          have hpg := tB_eq (t := (kids[j]'(by omega)).page) (by omega) (by omega)
          generalize kids[j]'(by omega) = x at *
          generalize hX : B0 ++ (rows.flatMap rowB ++ (kids.take j).flatMap kidB) = X at *
          repeat' (first | (refine i_op ?_; first | (refine i_qq ?_; refine qQ ?_) | refine qEf ?_) | refine tl_nil ?_ | (refine i_tc ?_; refine qTc ?_) | (refine i_te ?_; refine qTe ?_) | intro _)
          rename_i b9
          refine tc_any (Stays _ _ ([[(b9, .cells ⟨kidV x⟩ 164 (0, 0))]])) (stays_of (hT := tk) (Hp.le_refl _)) ?_
          all_goals refine rMv 0 ?_
          all_goals refine rFa 1 ?_
          all_goals refine rLd 2 ?_
          all_goals refine rFa 4 ?_
          all_goals refine rLd 5 ?_
          all_goals refine rCv 6 ?_
          all_goals (refine rStep2 (i := 3) (j := 7) ?_ ?_ <;> ((try refine qWant ?_); (first | (refine tl_is (.func 270) ?_; refine qC rfl rfl (key_spec _ v _ X sp hown3 (by omega) x.t x.id hko.1.1 (by omega) hid) ?_; rintro v2 ρ4 L2 hle0 ⟨hle4, sp4, hown4, rfl⟩; simp only [List.cons_append, List.nil_append]) | (refine tl_buildSlice_s rfl rfl rfl rfl (by simp) rfl rfl (fun _ => ?_); simp only [hpg]) | (refine qEf ?_; try intro _)) <;> ((try simp only [kM, kN, kO]); refine tl_nil ?_; refine rNext ?_)))
          all_goals (first | (refine rStep (i := 7) ?_; ((try refine qWant ?_); (first | (refine tl_buildSlice_s rfl rfl rfl rfl (by simp) rfl rfl (fun _ => ?_); simp only [hpg]) | (refine qEf ?_; try intro _)) <;> ((try simp only [kM, kN, kO]); refine tl_nil ?_; refine rNext ?_))) | (refine rStep (i := 3) ?_; ((try refine qWant ?_); (first | (refine tl_is (.func 270) ?_; refine qC rfl rfl (key_spec _ v _ X sp hown3 (by omega) x.t x.id hko.1.1 (by omega) hid) ?_; rintro v2 ρ4 L2 hle0 ⟨hle4, sp4, hown4, rfl⟩; simp only [List.cons_append, List.nil_append]) | (refine qEf ?_; try intro _)) <;> ((try simp only [kM, kN, kO]); refine tl_nil ?_; refine rNext ?_))))
          all_goals (refine rStep (i := 8) ?_; ((try refine qWant ?_); (first | (refine tl_is (.func 270) ?_; refine qC rfl rfl (key_spec _ v _ X sp hown3 (by omega) x.t x.id hko.1.1 (by omega) hid) ?_; rintro v2 ρ4 L2 hle0 ⟨hle4, sp4, hown4, rfl⟩; simp only [List.cons_append, List.nil_append]) | (refine tl_app (ys := [u8c (tB x.page)]) (m := 1) rfl rfl hown4 (hR := by infer_instance) SrcV.lit rfl rfl (by decide) rfl (by omega) (by omega) rfl (fun v5 sp5 hown5 => ?_); rw [show (X ++ keyB x.t x.id).map u8c ++ [u8c (tB x.page)] = (X ++ keyB x.t x.id ++ [tB x.page]).map u8c by simp, hmm] at hown5 ⊢; rw [hll] at hown5) | (refine qEf ?_; try intro _)) <;> ((try simp only [kM, kN, kO]); refine tl_nil ?_; refine rNext ?_)))
          all_goals refine rFull ?_
          all_goals refine rAs 9 ?_
          all_goals refine rDone ?_
          all_goals (repeat' (first | (refine i_op ?_; first | (refine i_qq ?_; refine qQ ?_) | refine qEf ?_) | refine tl_nil ?_ | (refine i_tc ?_; refine qTc ?_) | (refine i_te ?_; refine qTe ?_) | intro _))
          all_goals refine te_round_g (j + 1, _, v5, sp5) (⟨hlj, Hp.le_trans hle3 (by assumption), hown5⟩) ev_le ev_le rfl tk inferInstance (by first | omega | (dsimp only; omega))
        · have hj2 : j = kn := by omega
          subst hj2
          rw [List.take_of_length_le (by omega)] at hown3 ⊢
          have hfin : B0 ++ (rows.flatMap rowB ++ kids.flatMap kidB) = contB ⟨kind, rows, kids⟩ := by rw [← hB0]; simp [contB]
          rw [hfin] at hown3 ⊢
          repeat' (first | (refine i_op ?_; first | (refine i_qq ?_; refine qQ ?_) | refine qEf ?_) | refine tl_nil ?_ | (refine i_tc ?_; refine qTc ?_) | (refine i_te ?_; refine qTe ?_) | intro _)
          refine te_freeze _ (h := Rem.here) (fun ρ6 hle6 hfz => ?_)
          obtain ⟨a6, c6, rfl, hc6, hs6⟩ := hown3.sIn hfz
          exact qE ⟨Hp.le_trans hle1 (Hp.le_trans hle3 hle6), a6, _, c6, rfl, hc6, hs6, rfl⟩
    · obtain ⟨B0, hB0⟩ : ∃ B0, tB kind :: cntB ⟨kind, rows, kids⟩ = B0 := ⟨_, rfl⟩
      have hX : B0 = [tB kind] ++ [UInt8.ofNat (rn + kn)] := by rw [← hB0]; simp [cntB, hk0, hrn, hkn]
      have hBl : B0.length ≤ 2 := by rw [hX]; simp
      have hcnt' : Value.int .u8 ((rn : Int) + (kn : Int)) = u8c (UInt8.ofNat (rn + kn)) := by rw [← hcnt]; simp
      repeat' (first | (refine tl_is (.func 236) ?_; refine qC rfl rfl (hck _ ⟨hr, hk, hrb, hkb, hrc, hkc⟩) ?_; rintro v ρ' L' hle ⟨rfl, rfl, rfl⟩ <;> (try simp only [kM, kN, kO])) | (refine tl_buildSlice_s rfl rfl rfl rfl (by simp) rfl rfl (fun _ => ?_); first | simp only [hkB] | simp only [hcnt']) | (refine i_op ?_; first | (refine i_qq ?_; refine qQ ?_) | refine qEf ?_) | refine tl_nil ?_ | (refine i_tc ?_; refine qTc ?_) | (refine i_te ?_; refine qTe ?_) | intro _)
      rename_i b1 b2 b3
      rw [show ([(b2, Obj.cells ⟨[u8c (tB kind)]⟩ 5 (0, 0))] : List (Nat × Obj)) = ownC (.slice (some ⟨b2, 0, none⟩) 1 1) ([tB kind].map u8c) [] 5 from rfl]
      refine tl_app (ys := [u8c (UInt8.ofNat (rn + kn))]) (m := 1) (n := 1) (xs := [tB kind].map u8c) (sp := []) rfl rfl ⟨.inr ⟨b2, 1, rfl, rfl, rfl, Nat.le_refl _⟩⟩ (hR := by infer_instance) SrcV.lit rfl rfl (by decide) rfl (by omega) (by omega) rfl (fun v0 sp0 hown0 => ?_)
      rw [show [tB kind].map u8c ++ [u8c (UInt8.ofNat (rn + kn))] = B0.map u8c by rw [hX]; rfl] at hown0 ⊢
      replace hown0 : OwnS v0 B0.length (B0.map u8c) sp0 1 := by
        have e : B0.length = 1 + 1 := by rw [hX]; rfl
        rw [e]; exact hown0
      repeat' (first | (refine i_op ?_; first | (refine i_qq ?_; refine qQ ?_) | refine qEf ?_) | refine tl_nil ?_ | (refine i_tc ?_; refine qTc ?_) | (refine i_te ?_; refine qTe ?_) | intro _)
      rw [show B0.map u8c = (B0 ++ (rows.take 0).flatMap rowB).map u8c by simp]
      refine tc_loop_g [(1, _), (2, _), (3, _), (34, _), (35, _)] (fun (ζ : (Nat) × (Hp) × (Value) × (List Value)) => [(36, .int .i64 ζ.1), (5, ζ.2.2.1)]) (fun (ζ : (Nat) × (Hp) × (Value) × (List Value)) => ζ.2.1) (fun (ζ : (Nat) × (Hp) × (Value) × (List Value)) => [ownC ζ.2.2.1 ((B0 ++ (rows.take ζ.1).flatMap rowB).map u8c) ζ.2.2.2 5, [(b1, .cells ⟨[.int .i64 kind, .slice ra rn rc, .slice ka kn kc]⟩ 66 (0, 0))]]) (fun (ζ : (Nat) × (Hp) × (Value) × (List Value)) => ζ.1 ≤ rn ∧ ρ'.le ζ.2.1 ∧ OwnS ζ.2.2.1 (B0 ++ (rows.take ζ.1).flatMap rowB).length ((B0 ++ (rows.take ζ.1).flatMap rowB).map u8c) ζ.2.2.2 1) (fun (ζ : (Nat) × (Hp) × (Value) × (List Value)) => rn - ζ.1) ((0, ρ', v0, sp0)) (⟨Nat.zero_le _, Hp.le_refl _, by simpa using hown0⟩) ev_le ev_le rfl tk ?_
      rintro ⟨k, ρ1, v, sp⟩ hI
      try simp only [List.cons_append, List.nil_append, List.append_assoc, List.append_eq] at hI ⊢
      try dsimp only at hI ⊢
      obtain ⟨hkn0, hle1, hown⟩ := hI
      by_cases hlt : k < rn
      · obtain ⟨b, off, C, T, fr, rfl, hb, hfit, hc⟩ := (hr.mono hle1).get (show k < rows.length by omega)
        have hmem : rows[k]'(by omega) ∈ rows := List.getElem_mem _
        have hro := hrow _ hmem
        have hid := hir _ hmem
        have hts := flatMap_take_succ rowB rows k (by omega)
        have hfl := flatMap_le rowB 20 (rows.take k) (fun x hx => rowB_le (hrow x (List.mem_of_mem_take hx)))
        have htl : (rows.take k).length ≤ 4 := by simp; omega
        have hXl : (B0 ++ (rows.take k).flatMap rowB).length ≤ 100 := by simp only [List.length_append]; omega
        have hll : (B0 ++ (rows.take k).flatMap rowB).length + (rowB (rows[k]'(by omega))).length = (B0 ++ (rows.take (k + 1)).flatMap rowB).length := by rw [hts]; simp; omega
        have hmm : B0 ++ (rows.take k).flatMap rowB ++ rowB (rows[k]'(by omega)) = B0 ++ (rows.take (k + 1)).flatMap rowB := by rw [hts]; simp
        generalize rows[k]'(by omega) = x at *
        repeat' (first | (refine tl_is (.func 256) ?_; refine qC rfl rfl (claid_spec _ v _ _ sp hown (by omega) x hro hid) ?_; rintro v2 ρ2 L2 hle0 ⟨hle2, sp2, hown2, rfl⟩; simp only [List.cons_append, List.nil_append, hmm]; rw [hmm, hll] at hown2) | (refine i_op ?_; first | (refine i_qq ?_; refine qQ ?_) | refine qEf ?_) | refine tl_nil ?_ | (refine i_tc ?_; refine qTc ?_) | (refine i_te ?_; refine qTe ?_) | intro _)
        refine te_round_g (k + 1, _, v2, sp2) (⟨hlt, Hp.le_trans hle1 hle2, hown2⟩) ev_le ev_le rfl tk inferInstance (by first | omega | (dsimp only; omega))
      · have hk2 : k = rn := by omega
        subst hk2
        rw [List.take_of_length_le (by omega)] at hown ⊢
        repeat' (first | (refine i_op ?_; first | (refine i_qq ?_; refine qQ ?_) | refine qEf ?_) | refine tl_nil ?_ | (refine i_tc ?_; refine qTc ?_) | (refine i_te ?_; refine qTe ?_) | intro _)
        rw [show (B0 ++ rows.flatMap rowB).map u8c = (B0 ++ (rows.flatMap rowB ++ (kids.take 0).flatMap kidB)).map u8c by simp]
        refine tc_loop_g [(2, _), (3, _), (45, _), (46, _)] (fun (ζ : (Nat) × (Hp) × (Value) × (List Value)) => [(47, .int .i64 ζ.1), (5, ζ.2.2.1)]) (fun (ζ : (Nat) × (Hp) × (Value) × (List Value)) => ζ.2.1) (fun (ζ : (Nat) × (Hp) × (Value) × (List Value)) => [ownC ζ.2.2.1 ((B0 ++ (rows.flatMap rowB ++ (kids.take ζ.1).flatMap kidB)).map u8c) ζ.2.2.2 5]) (fun (ζ : (Nat) × (Hp) × (Value) × (List Value)) => ζ.1 ≤ kn ∧ ρ1.le ζ.2.1 ∧ OwnS ζ.2.2.1 (B0 ++ (rows.flatMap rowB ++ (kids.take ζ.1).flatMap kidB)).length ((B0 ++ (rows.flatMap rowB ++ (kids.take ζ.1).flatMap kidB)).map u8c) ζ.2.2.2 1) (fun (ζ : (Nat) × (Hp) × (Value) × (List Value)) => kn - ζ.1) ((0, ρ1, v, sp)) (⟨Nat.zero_le _, Hp.le_refl _, by simpa using hown⟩) ev_le ev_le rfl tk ?_
        rintro ⟨j, ρ2, v, sp⟩ hI
        try simp only [List.cons_append, List.nil_append, List.append_assoc, List.append_eq] at hI ⊢
        try dsimp only at hI ⊢
        have hfl := flatMap_le rowB 20 rows (fun x hx => rowB_le (hrow x hx))
        obtain ⟨hj0, hle3, hown3⟩ := hI
        by_cases hlj : j < kn
        · obtain ⟨b, off, C, T, fr, rfl, hb, hfit, hc⟩ := (hk.mono (Hp.le_trans hle1 hle3)).get (show j < kids.length by omega)
          have hmem : kids[j]'(by omega) ∈ kids := List.getElem_mem _
          have hko := hkid _ hmem
          have hid := hik _ hmem
          have hts := flatMap_take_succ kidB kids j (by omega)
          have hfk := flatMap_le kidB 4 (kids.take j) (fun x hx => Nat.le_of_eq (kidB_len x))
          have htl : (kids.take j).length ≤ 4 := by simp; omega
          have hXl : (B0 ++ (rows.flatMap rowB ++ (kids.take j).flatMap kidB)).length ≤ 200 := by simp only [List.length_append]; omega
          have hmm : B0 ++ (rows.flatMap rowB ++ (kids.take j).flatMap kidB) ++ keyB (kids[j]'(by omega)).t (kids[j]'(by omega)).id ++ [tB (kids[j]'(by omega)).page] = B0 ++ (rows.flatMap rowB ++ (kids.take (j + 1)).flatMap kidB) := by rw [hts]; simp [kidB]
          have hll : (B0 ++ (rows.flatMap rowB ++ (kids.take j).flatMap kidB)).length + 3 + 1 = (B0 ++ (rows.flatMap rowB ++ (kids.take (j + 1)).flatMap kidB)).length := by rw [hts]; simp [kidB_len]; omega
          have hpg := tB_eq (t := (kids[j]'(by omega)).page) (by omega) (by omega)
          generalize kids[j]'(by omega) = x at *
          generalize hX : B0 ++ (rows.flatMap rowB ++ (kids.take j).flatMap kidB) = X at *
          repeat' (first | (refine i_op ?_; first | (refine i_qq ?_; refine qQ ?_) | refine qEf ?_) | refine tl_nil ?_ | (refine i_tc ?_; refine qTc ?_) | (refine i_te ?_; refine qTe ?_) | intro _)
          rename_i b9
          refine tc_any (Stays _ _ ([[(b9, .cells ⟨kidV x⟩ 164 (0, 0))]])) (stays_of (hT := tk) (Hp.le_refl _)) ?_
          all_goals refine rMv 0 ?_
          all_goals refine rFa 1 ?_
          all_goals refine rLd 2 ?_
          all_goals refine rFa 4 ?_
          all_goals refine rLd 5 ?_
          all_goals refine rCv 6 ?_
          all_goals (refine rStep2 (i := 3) (j := 7) ?_ ?_ <;> ((try refine qWant ?_); (first | (refine tl_is (.func 270) ?_; refine qC rfl rfl (key_spec _ v _ X sp hown3 (by omega) x.t x.id hko.1.1 (by omega) hid) ?_; rintro v2 ρ4 L2 hle0 ⟨hle4, sp4, hown4, rfl⟩; simp only [List.cons_append, List.nil_append]) | (refine tl_buildSlice_s rfl rfl rfl rfl (by simp) rfl rfl (fun _ => ?_); simp only [hpg]) | (refine qEf ?_; try intro _)) <;> ((try simp only [kM, kN, kO]); refine tl_nil ?_; refine rNext ?_)))
          all_goals (first | (refine rStep (i := 7) ?_; ((try refine qWant ?_); (first | (refine tl_buildSlice_s rfl rfl rfl rfl (by simp) rfl rfl (fun _ => ?_); simp only [hpg]) | (refine qEf ?_; try intro _)) <;> ((try simp only [kM, kN, kO]); refine tl_nil ?_; refine rNext ?_))) | (refine rStep (i := 3) ?_; ((try refine qWant ?_); (first | (refine tl_is (.func 270) ?_; refine qC rfl rfl (key_spec _ v _ X sp hown3 (by omega) x.t x.id hko.1.1 (by omega) hid) ?_; rintro v2 ρ4 L2 hle0 ⟨hle4, sp4, hown4, rfl⟩; simp only [List.cons_append, List.nil_append]) | (refine qEf ?_; try intro _)) <;> ((try simp only [kM, kN, kO]); refine tl_nil ?_; refine rNext ?_))))
          all_goals (refine rStep (i := 8) ?_; ((try refine qWant ?_); (first | (refine tl_is (.func 270) ?_; refine qC rfl rfl (key_spec _ v _ X sp hown3 (by omega) x.t x.id hko.1.1 (by omega) hid) ?_; rintro v2 ρ4 L2 hle0 ⟨hle4, sp4, hown4, rfl⟩; simp only [List.cons_append, List.nil_append]) | (refine tl_app (ys := [u8c (tB x.page)]) (m := 1) rfl rfl hown4 (hR := by infer_instance) SrcV.lit rfl rfl (by decide) rfl (by omega) (by omega) rfl (fun v5 sp5 hown5 => ?_); rw [show (X ++ keyB x.t x.id).map u8c ++ [u8c (tB x.page)] = (X ++ keyB x.t x.id ++ [tB x.page]).map u8c by simp, hmm] at hown5 ⊢; rw [hll] at hown5) | (refine qEf ?_; try intro _)) <;> ((try simp only [kM, kN, kO]); refine tl_nil ?_; refine rNext ?_)))
          all_goals refine rFull ?_
          all_goals refine rAs 9 ?_
          all_goals refine rDone ?_
          all_goals (repeat' (first | (refine i_op ?_; first | (refine i_qq ?_; refine qQ ?_) | refine qEf ?_) | refine tl_nil ?_ | (refine i_tc ?_; refine qTc ?_) | (refine i_te ?_; refine qTe ?_) | intro _))
          all_goals refine te_round_g (j + 1, _, v5, sp5) (⟨hlj, Hp.le_trans hle3 (by assumption), hown5⟩) ev_le ev_le rfl tk inferInstance (by first | omega | (dsimp only; omega))
        · have hj2 : j = kn := by omega
          subst hj2
          rw [List.take_of_length_le (by omega)] at hown3 ⊢
          have hfin : B0 ++ (rows.flatMap rowB ++ kids.flatMap kidB) = contB ⟨kind, rows, kids⟩ := by rw [← hB0]; simp [contB]
          rw [hfin] at hown3 ⊢
          repeat' (first | (refine i_op ?_; first | (refine i_qq ?_; refine qQ ?_) | refine qEf ?_) | refine tl_nil ?_ | (refine i_tc ?_; refine qTc ?_) | (refine i_te ?_; refine qTe ?_) | intro _)
          refine te_freeze _ (h := Rem.here) (fun ρ6 hle6 hfz => ?_)
          obtain ⟨a6, c6, rfl, hc6, hs6⟩ := hown3.sIn hfz
          exact qE ⟨Hp.le_trans hle1 (Hp.le_trans hle3 hle6), a6, _, c6, rfl, hc6, hs6, rfl⟩
end Go.Proofs.E

namespace Go.Proofs.E
open Go
set_option linter.unusedVariables false
set_option linter.unusedSimpArgs false
set_option linter.unusedSectionVars false
set_option maxRecDepth 4000
set_option maxHeartbeats 1000000
attribute [local irreducible] Yl TL TC TE Spec YSpec R1 Hp.le EnvLe TS TR YS Stays
/-! ## codec: which are one -/
instance : Fun Tryz.prog 37 := mkFun (by kernel_rfl)
instance (priority := 1200) eqRow {x y : Row} : EqC Tryz.prog 8 60 (.agg ⟨rowV x⟩) (.agg ⟨rowV y⟩) (decide (x = y)) := by
  have h : EqC Tryz.prog 8 60 (.agg ⟨[.int .i64 x.t, .int .u16 x.id, .int .i64 x.val, strV x.note]⟩) (.agg ⟨[.int .i64 y.t, .int .u16 y.id, .int .i64 y.val, strV y.note]⟩) _ := inferInstance
  refine ⟨fun d w hd => ?_⟩
  rw [h.out d w hd]
  congr 1
  obtain ⟨t, i, v, n⟩ := x
  obtain ⟨t', i', v', n'⟩ := y
  simp only [Row.mk.injEq, Bool.and_true, Bool.decide_and]
  have e : ((i : Int) == (i' : Int)) = decide (i = i') := by
    by_cases h : i = i'
    · subst h; simp
    · rw [decide_eq_false h]; simp only [beq_eq_false_iff_ne, ne_eq]; omega
  rw [e]
  by_cases h1 : t = t' <;> by_cases h2 : i = i' <;> by_cases h3 : v = v' <;> simp [h1, h2, h3]
instance (priority := 1200) eqKid {x y : Kid} : EqC Tryz.prog 8 164 (.agg ⟨kidV x⟩) (.agg ⟨kidV y⟩) (decide (x = y)) := by
  have h : EqC Tryz.prog 8 164 (.agg ⟨[.int .i64 x.t, .int .u16 x.id, .int .i64 x.page]⟩) (.agg ⟨[.int .i64 y.t, .int .u16 y.id, .int .i64 y.page]⟩) _ := inferInstance
  refine ⟨fun d w hd => ?_⟩
  rw [h.out d w hd]
  congr 1
  obtain ⟨t, i, v⟩ := x
  obtain ⟨t', i', v'⟩ := y
  simp only [Kid.mk.injEq, Bool.and_true, Bool.decide_and]
  have e : ((i : Int) == (i' : Int)) = decide (i = i') := by
    by_cases h : i = i'
    · subst h; simp
    · rw [decide_eq_false h]; simp only [beq_eq_false_iff_ne, ne_eq]; omega
  rw [e]
  by_cases h1 : t = t' <;> by_cases h2 : i = i' <;> by_cases h3 : v = v' <;> simp [h1, h2, h3]
theorem slEqROW_spec (ρ : Hp) (a a' : Option Addr) (n c n' c' : Nat) (l m : List Row) (h : AIn ρ 4 rowV a n l) (h' : AIn ρ 4 rowV a' n' m) (hn : n ≤ 1000000) :
    Spec Tryz.prog 117 [.slice a n c, .slice a' n' c'] ρ [] (fun v ρ' L' => v = .bool (decide (l = m)) ∧ ρ' = ρ ∧ L' = []) := by
  have hl := h.len
  have hm := h'.len
  refine spec_enter Tryz.func117 rfl rfl rfl fun u R => ?_
  simp only [argsE, List.cons_append, List.nil_append]
  by_cases hne : n = n'
  · subst hne
    repeat' (first | (refine i_op ?_; first | (refine i_qq ?_; refine qQ ?_) | refine qEf ?_) | refine tl_nil ?_ | (refine i_tc ?_; refine qTc ?_) | (refine i_te ?_; refine qTe ?_) | intro _)
    refine tc_loop_g [(0, _), (1, _), (4, _), (12, _)] (fun (ζ : (Nat)) => [(13, .int .i64 ζ)]) (fun (ζ : (Nat)) => ρ) (fun (ζ : (Nat)) => []) (fun (ζ : (Nat)) => ζ ≤ n ∧ l.take ζ = m.take ζ) (fun (ζ : (Nat)) => n - ζ) (0) (⟨Nat.zero_le _, rfl⟩) ev_le ev_le rfl tk ?_
    rintro k hI
    try simp only [List.cons_append, List.nil_append, List.append_assoc, List.append_eq] at hI ⊢
    try dsimp only at hI ⊢
    obtain ⟨hk, hpre⟩ := hI
    by_cases hlt : k < n
    · obtain ⟨b, off, C, T, fr, rfl, hb, hfit, hc⟩ := h.get (show k < l.length by omega)
      obtain ⟨b2, off2, C2, T2, fr2, rfl, hb2, hfit2, hc2⟩ := h'.get (show k < m.length by omega)
      have ht1 := List.take_succ_eq_append_getElem (show k < l.length by omega)
      have ht2 := List.take_succ_eq_append_getElem (show k < m.length by omega)
      have hf : l = m → l[k]'(by omega) = m[k]'(by omega) := fun e => by subst e; rfl
      generalize l[k]'(by omega) = x at *
      generalize m[k]'(by omega) = y at *
      by_cases he : x = y
      · have hd : decide (x = y) = true := decide_eq_true he
        repeat' (first | (refine i_op ?_; first | (refine i_qq ?_; refine qQ ?_) | refine qEf ?_) | refine tl_nil ?_ | (refine i_tc ?_; refine qTc ?_) | (refine i_te ?_; refine qTe ?_) | intro _)
        refine tc_any (Stays _ _ _) stays_refl ?_
        all_goals refine rMv 0 ?_
        all_goals refine rFull ?_
        all_goals refine rMv 1 ?_
        all_goals refine rIa 2 ?_
        all_goals refine rLd 3 ?_
        all_goals refine rMv 4 ?_
        all_goals refine rMv 5 ?_
        all_goals refine rIa 6 ?_
        all_goals refine rLd 7 ?_
        all_goals refine rCm 8 ?_
        all_goals refine rDone ?_
        try simp only [hd]
        repeat' (first | (refine i_op ?_; first | (refine i_qq ?_; refine qQ ?_) | refine qEf ?_) | refine tl_nil ?_ | (refine i_tc ?_; refine qTc ?_) | (refine i_te ?_; refine qTe ?_) | intro _)
        refine te_round_g (k + 1) (⟨hlt, by rw [ht1, ht2, hpre, he]⟩) ev_le ev_le rfl tk inferInstance (by first | omega | (dsimp only; omega))
      · have hd : decide (x = y) = false := decide_eq_false he
        rw [decide_eq_false (fun e => he (hf e))]
        repeat' (first | (refine i_op ?_; first | (refine i_qq ?_; refine qQ ?_) | refine qEf ?_) | refine tl_nil ?_ | (refine i_tc ?_; refine qTc ?_) | (refine i_te ?_; refine qTe ?_) | intro _)
        refine tc_any (Stays _ _ _) stays_refl ?_
        all_goals refine rMv 0 ?_
        all_goals refine rFull ?_
        all_goals refine rMv 1 ?_
        all_goals refine rIa 2 ?_
        all_goals refine rLd 3 ?_
        all_goals refine rMv 4 ?_
        all_goals refine rMv 5 ?_
        all_goals refine rIa 6 ?_
        all_goals refine rLd 7 ?_
        all_goals refine rCm 8 ?_
        all_goals refine rDone ?_
        try simp only [hd]
        repeat' (first | (refine i_op ?_; first | (refine i_qq ?_; refine qQ ?_) | refine qEf ?_) | refine tl_nil ?_ | (refine i_tc ?_; refine qTc ?_) | (refine i_te ?_; refine qTe ?_) | intro _)
        exact qE ⟨rfl, rfl, rfl⟩
    · have hk2 : k = n := by omega
      subst hk2
      rw [List.take_of_length_le (by omega), List.take_of_length_le (by omega)] at hpre
      rw [decide_eq_true hpre]
      repeat' (first | (refine i_op ?_; first | (refine i_qq ?_; refine qQ ?_) | refine qEf ?_) | refine tl_nil ?_ | (refine i_tc ?_; refine qTc ?_) | (refine i_te ?_; refine qTe ?_) | intro _)
      exact qE ⟨rfl, rfl, rfl⟩
  · rw [decide_eq_false (fun e : l = m => hne (by rw [← hl, ← hm, e]))]
    repeat' (first | (refine i_op ?_; first | (refine i_qq ?_; refine qQ ?_) | refine qEf ?_) | refine tl_nil ?_ | (refine i_tc ?_; refine qTc ?_) | (refine i_te ?_; refine qTe ?_) | intro _)
    exact qE ⟨rfl, rfl, rfl⟩
theorem slEqKID_spec (ρ : Hp) (a a' : Option Addr) (n c n' c' : Nat) (l m : List Kid) (h : AIn ρ 3 kidV a n l) (h' : AIn ρ 3 kidV a' n' m) (hn : n ≤ 1000000) :
    Spec Tryz.prog 118 [.slice a n c, .slice a' n' c'] ρ [] (fun v ρ' L' => v = .bool (decide (l = m)) ∧ ρ' = ρ ∧ L' = []) := by
  have hl := h.len
  have hm := h'.len
  refine spec_enter Tryz.func118 rfl rfl rfl fun u R => ?_
  simp only [argsE, List.cons_append, List.nil_append]
  by_cases hne : n = n'
  · subst hne
    repeat' (first | (refine i_op ?_; first | (refine i_qq ?_; refine qQ ?_) | refine qEf ?_) | refine tl_nil ?_ | (refine i_tc ?_; refine qTc ?_) | (refine i_te ?_; refine qTe ?_) | intro _)
    refine tc_loop_g [(0, _), (1, _), (4, _), (12, _)] (fun (ζ : (Nat)) => [(13, .int .i64 ζ)]) (fun (ζ : (Nat)) => ρ) (fun (ζ : (Nat)) => []) (fun (ζ : (Nat)) => ζ ≤ n ∧ l.take ζ = m.take ζ) (fun (ζ : (Nat)) => n - ζ) (0) (⟨Nat.zero_le _, rfl⟩) ev_le ev_le rfl tk ?_
    rintro k hI
    try simp only [List.cons_append, List.nil_append, List.append_assoc, List.append_eq] at hI ⊢
    try dsimp only at hI ⊢
    obtain ⟨hk, hpre⟩ := hI
    by_cases hlt : k < n
    · obtain ⟨b, off, C, T, fr, rfl, hb, hfit, hc⟩ := h.get (show k < l.length by omega)
      obtain ⟨b2, off2, C2, T2, fr2, rfl, hb2, hfit2, hc2⟩ := h'.get (show k < m.length by omega)
      have ht1 := List.take_succ_eq_append_getElem (show k < l.length by omega)
      have ht2 := List.take_succ_eq_append_getElem (show k < m.length by omega)
      have hf : l = m → l[k]'(by omega) = m[k]'(by omega) := fun e => by subst e; rfl
      generalize l[k]'(by omega) = x at *
      generalize m[k]'(by omega) = y at *
      by_cases he : x = y
      · have hd : decide (x = y) = true := decide_eq_true he
        repeat' (first | (refine i_op ?_; first | (refine i_qq ?_; refine qQ ?_) | refine qEf ?_) | refine tl_nil ?_ | (refine i_tc ?_; refine qTc ?_) | (refine i_te ?_; refine qTe ?_) | intro _)
        refine tc_any (Stays _ _ _) stays_refl ?_
        all_goals refine rMv 0 ?_
        all_goals refine rFull ?_
        all_goals refine rMv 1 ?_
        all_goals refine rIa 2 ?_
        all_goals refine rLd 3 ?_
        all_goals refine rMv 4 ?_
        all_goals refine rMv 5 ?_
        all_goals refine rIa 6 ?_
        all_goals refine rLd 7 ?_
        all_goals refine rCm 8 ?_
        all_goals refine rDone ?_
        try simp only [hd]
        repeat' (first | (refine i_op ?_; first | (refine i_qq ?_; refine qQ ?_) | refine qEf ?_) | refine tl_nil ?_ | (refine i_tc ?_; refine qTc ?_) | (refine i_te ?_; refine qTe ?_) | intro _)
        refine te_round_g (k + 1) (⟨hlt, by rw [ht1, ht2, hpre, he]⟩) ev_le ev_le rfl tk inferInstance (by first | omega | (dsimp only; omega))
      · have hd : decide (x = y) = false := decide_eq_false he
        rw [decide_eq_false (fun e => he (hf e))]
        repeat' (first | (refine i_op ?_; first | (refine i_qq ?_; refine qQ ?_) | refine qEf ?_) | refine tl_nil ?_ | (refine i_tc ?_; refine qTc ?_) | (refine i_te ?_; refine qTe ?_) | intro _)
        refine tc_any (Stays _ _ _) stays_refl ?_
        all_goals refine rMv 0 ?_
        all_goals refine rFull ?_
        all_goals refine rMv 1 ?_
        all_goals refine rIa 2 ?_
        all_goals refine rLd 3 ?_
        all_goals refine rMv 4 ?_
        all_goals refine rMv 5 ?_
        all_goals refine rIa 6 ?_
        all_goals refine rLd 7 ?_
        all_goals refine rCm 8 ?_
        all_goals refine rDone ?_
        try simp only [hd]
        repeat' (first | (refine i_op ?_; first | (refine i_qq ?_; refine qQ ?_) | refine qEf ?_) | refine tl_nil ?_ | (refine i_tc ?_; refine qTc ?_) | (refine i_te ?_; refine qTe ?_) | intro _)
        exact qE ⟨rfl, rfl, rfl⟩
    · have hk2 : k = n := by omega
      subst hk2
      rw [List.take_of_length_le (by omega), List.take_of_length_le (by omega)] at hpre
      rw [decide_eq_true hpre]
      repeat' (first | (refine i_op ?_; first | (refine i_qq ?_; refine qQ ?_) | refine qEf ?_) | refine tl_nil ?_ | (refine i_tc ?_; refine qTc ?_) | (refine i_te ?_; refine qTe ?_) | intro _)
      exact qE ⟨rfl, rfl, rfl⟩
  · rw [decide_eq_false (fun e : l = m => hne (by rw [← hl, ← hm, e]))]
    repeat' (first | (refine i_op ?_; first | (refine i_qq ?_; refine qQ ?_) | refine qEf ?_) | refine tl_nil ?_ | (refine i_tc ?_; refine qTc ?_) | (refine i_te ?_; refine qTe ?_) | intro _)
    exact qE ⟨rfl, rfl, rfl⟩
theorem bytesEq_spec (ρ : Hp) (a a' : Option Addr) (n c n' c' : Nat) (l m : List UInt8) (h : SIn ρ u8c a n l) (h' : SIn ρ u8c a' n' m) :
    Spec Tryz.prog 37 [.slice a n c, .slice a' n' c'] ρ [] (fun v ρ' L' => v = .bool (decide (l = m)) ∧ ρ' = ρ ∧ L' = []) := by
  refine spec_enter Tryz.func37 rfl rfl rfl fun u R => ?_
  simp only [argsE, List.cons_append, List.nil_append]
  repeat' (first | (refine i_op ?_; first | (refine i_qq ?_; refine qQ ?_) | refine qEf ?_) | refine tl_nil ?_ | (refine i_tc ?_; refine qTc ?_) | (refine i_te ?_; refine qTe ?_) | intro _)
  exact qE ⟨rfl, rfl, rfl⟩
theorem same_spec (ρ : Hp) (w w' : CV) (c d : Cont) (h : CIn ρ w c.rows c.kids) (h' : CIn ρ w' d.rows d.kids) :
    Spec Tryz.prog 42 [.agg ⟨contV c.kind w⟩, .agg ⟨contV d.kind w'⟩] ρ [] (fun v ρ' L' => v = .bool (decide (c = d)) ∧ ρ' = ρ ∧ L' = []) := by
  have hr := fun ρ h h' => slEqROW_spec ρ w.ra w'.ra w.rn w.rc w'.rn w'.rc c.rows d.rows h h' (CIn.rb (by assumption))
  have hk := fun ρ h h' => slEqKID_spec ρ w.ka w'.ka w.kn w.kc w'.kn w'.kc c.kids d.kids h h' (CIn.kb (by assumption))
  obtain ⟨kind, rows, kids⟩ := c
  obtain ⟨kind', rows', kids'⟩ := d
  dsimp only at hr hk h h' ⊢
  have hrr := h.r
  have hrr' := h'.r
  have hkk := h.k
  have hkk' := h'.k
  simp only [Cont.mk.injEq]
  refine spec_enter Tryz.func42 rfl rfl rfl fun u R => ?_
  simp only [argsE, List.cons_append, List.nil_append]
  by_cases h1 : kind = kind'
  · by_cases h2 : rows = rows'
    · rw [decide_eq_true h2] at hr
      by_cases h3 : kids = kids'
      · rw [decide_eq_true h3] at hk
        rw [decide_eq_true ⟨h1, h2, h3⟩]
        repeat' (first | (refine tl_is (.func 117) ?_; refine qC rfl rfl (hr _ hrr hrr') ?_; rintro v ρ' L' hle ⟨rfl, rfl, rfl⟩ <;> (try simp only [kM, kN, kO])) | (refine tl_is (.func 118) ?_; refine qC rfl rfl (hk _ hkk hkk') ?_; rintro v ρ' L' hle ⟨rfl, rfl, rfl⟩ <;> (try simp only [kM, kN, kO])) | (refine i_op ?_; first | (refine i_qq ?_; refine qQ ?_) | refine qEf ?_) | refine tl_nil ?_ | (refine i_tc ?_; refine qTc ?_) | (refine i_te ?_; refine qTe ?_) | intro _)
        exact qE ⟨rfl, rfl, rfl⟩
      · rw [decide_eq_false h3] at hk
        rw [decide_eq_false (fun e => h3 e.2.2)]
        repeat' (first | (refine tl_is (.func 117) ?_; refine qC rfl rfl (hr _ hrr hrr') ?_; rintro v ρ' L' hle ⟨rfl, rfl, rfl⟩ <;> (try simp only [kM, kN, kO])) | (refine tl_is (.func 118) ?_; refine qC rfl rfl (hk _ hkk hkk') ?_; rintro v ρ' L' hle ⟨rfl, rfl, rfl⟩ <;> (try simp only [kM, kN, kO])) | (refine i_op ?_; first | (refine i_qq ?_; refine qQ ?_) | refine qEf ?_) | refine tl_nil ?_ | (refine i_tc ?_; refine qTc ?_) | (refine i_te ?_; refine qTe ?_) | intro _)
        exact qE ⟨rfl, rfl, rfl⟩
    · rw [decide_eq_false h2] at hr
      rw [decide_eq_false (fun e => h2 e.2.1)]
      repeat' (first | (refine tl_is (.func 117) ?_; refine qC rfl rfl (hr _ hrr hrr') ?_; rintro v ρ' L' hle ⟨rfl, rfl, rfl⟩ <;> (try simp only [kM, kN, kO])) | (refine i_op ?_; first | (refine i_qq ?_; refine qQ ?_) | refine qEf ?_) | refine tl_nil ?_ | (refine i_tc ?_; refine qTc ?_) | (refine i_te ?_; refine qTe ?_) | intro _)
      exact qE ⟨rfl, rfl, rfl⟩
  · rw [decide_eq_false (fun e => h1 e.1)]
    repeat' (first | (refine i_op ?_; first | (refine i_qq ?_; refine qQ ?_) | refine qEf ?_) | refine tl_nil ?_ | (refine i_tc ?_; refine qTc ?_) | (refine i_te ?_; refine qTe ?_) | intro _)
    exact qE ⟨rfl, rfl, rfl⟩
end Go.Proofs.E

namespace Go.Proofs.E
open Go
set_option linter.unusedVariables false
set_option linter.unusedSimpArgs false
set_option linter.unusedSectionVars false
set_option maxRecDepth 4000
set_option maxHeartbeats 1000000
attribute [local irreducible] Yl TL TC TE Spec YSpec R1 Hp.le EnvLe TS TR YS Stays
/-! ## what is taken is what its bytes are -/
theorem numR_zero {k : Nat} {l : List UInt8} {st : Int} (h : (numR k l st).2.2 = 0) : st = 0 ∧ k ≤ l.length ∧ numR k l st = (unbe (l.take k), l.drop k, 0) := by
  unfold numR at h ⊢
  by_cases hs : st ≠ 0
  · rw [if_pos hs] at h; exact absurd h hs
  · have h0 : st = 0 := by simpa using hs
    rw [if_neg hs] at h ⊢
    by_cases hl : l.length < k
    · rw [if_pos hl] at h; simp at h
    · rw [if_neg hl]; exact ⟨h0, by omega, rfl⟩
theorem rawR_zero {k : Nat} {l : List UInt8} {st : Int} (h : (rawR k l st).2.2 = 0) : st = 0 ∧ k ≤ l.length ∧ rawR k l st = (l.take k, l.drop k, 0) := by
  unfold rawR at h ⊢
  by_cases hs : st ≠ 0
  · rw [if_pos hs] at h; exact absurd h hs
  · have h0 : st = 0 := by simpa using hs
    rw [if_neg hs] at h ⊢
    by_cases hl : l.length < k
    · rw [if_pos hl] at h; simp at h
    · rw [if_neg hl]; exact ⟨h0, by omega, rfl⟩
theorem be_take {k : Nat} {l : List UInt8} (h : k ≤ l.length) : be k (unbe (l.take k)) = l.take k := by
  have := be_unbe (l.take k)
  rwa [List.length_take, Nat.min_eq_left h] at this
theorem be_one (x : Nat) : be 1 x = [UInt8.ofNat x] := by simp [be]
theorem tB_nat (x : Nat) : tB (x : Int) = UInt8.ofNat x := rfl
theorem vN_i64N {x : Nat} (h : x < 18446744073709551616) : vN (i64N x) = x := by
  have h1 : IntKind.u64.wrap (i64N x) = x := by
    unfold i64N
    simp only [IntKind.wrap, IntKind.bits, IntKind.signed, Bool.true_and, Bool.false_and, Bool.false_eq_true, if_false]
    split <;> simp_all <;> omega
  simp [vN, h1]
theorem i64N_vN {v : Int} (h : -9223372036854775808 ≤ v ∧ v ≤ 9223372036854775807) : i64N (vN v) = v := by
  unfold i64N
  rw [← vN_eq]
  simp only [IntKind.wrap, IntKind.bits, IntKind.signed, Bool.true_and, Bool.false_and, Bool.false_eq_true, if_false]
  split <;> simp_all <;> omega
theorem needB_false {bad : Bool} {st : Int} {is : Bool} (h : needB bad st is = false) (hs : st = 0) : bad = false ∧ is = true := by
  subst hs
  cases bad <;> cases is <;> simp_all [needB]
structure RowFit (r : Row) : Prop where
  id : r.id < 65536
  val : -9223372036854775808 ≤ r.val ∧ r.val ≤ 9223372036854775807
theorem i64N_fit (x : Nat) : -9223372036854775808 ≤ i64N x ∧ i64N x ≤ 9223372036854775807 := by
  unfold i64N
  simp only [IntKind.wrap, IntKind.bits, IntKind.signed, Bool.true_and]
  split <;> simp_all <;> omega
theorem rowR_ok {l l' : List UInt8} {st : Int} {bad : Bool} {r : Row} (h : rowR l st bad = (r, l', 0, false)) : st = 0 ∧ bad = false ∧ rowOk r = true ∧ l = rowB r ++ l' ∧ RowFit r := by
  unfold rowR at h
  dsimp only at h
  split at h
  · rename_i hok
    rw [Bool.and_eq_true, Bool.not_eq_true'] at hok
    obtain ⟨hb1, hs1⟩ := hok
    have hs1 := of_decide_eq_true hs1
    obtain ⟨rfl, hl1, e1⟩ := numR_zero hs1
    obtain ⟨rfl, ht⟩ := needB_false hb1 hs1
    split at h
    · rename_i hok2
      rw [Bool.and_eq_true, Bool.not_eq_true'] at hok2
      obtain ⟨hb2, hs4⟩ := hok2
      have hs4 := of_decide_eq_true hs4
      obtain ⟨hs3, hl4, e4⟩ := numR_zero hs4
      obtain ⟨hs2, hl3, e3⟩ := numR_zero hs3
      obtain ⟨hs1', hl2, e2⟩ := numR_zero hs2
      obtain ⟨_, hn⟩ := needB_false hb2 hs4
      have ht := of_decide_eq_true ht
      have hn := of_decide_eq_true hn
      simp only [Prod.mk.injEq] at h
      obtain ⟨h1, h2, h3, h4⟩ := h
      obtain ⟨_, hl5, e5⟩ := rawR_zero h3
      subst h1; subst h2
      rw [e5]
      simp only [e4] at hl5 hn e5 ⊢
      simp only [e3] at hl4 hl5 hn e5 ⊢
      simp only [e2] at hl3 hl4 hl5 hn e5 ⊢
      simp only [e1] at hl2 hl3 hl4 hl5 hn ht e5 ⊢
      have b1 := be_take hl1
      have b2 := be_take hl2
      have b3 := be_take hl3
      have b4 := be_take hl4
      rw [be_one] at b1 b4
      have u2 := unbe_lt ((l.drop 1).take 2)
      have u3 := unbe_lt (((l.drop 1).drop 2).take 8)
      rw [List.length_take, Nat.min_eq_left hl2] at u2
      rw [List.length_take, Nat.min_eq_left hl3] at u3
      have hlen : (List.take (unbe (List.take 1 (List.drop 8 (List.drop 2 (List.drop 1 l))))) (List.drop 1 (List.drop 8 (List.drop 2 (List.drop 1 l))))).length = unbe (List.take 1 (List.drop 8 (List.drop 2 (List.drop 1 l)))) := by rw [List.length_take, Nat.min_eq_left hl5]
      refine ⟨by trivial, by trivial, ?_, ?_, ⟨by dsimp only; omega, i64N_fit _⟩⟩
      · unfold rowOk
        dsimp only
        rw [hlen]
        exact decide_eq_true ⟨⟨by omega, by omega⟩, by omega⟩
      · unfold rowB keyB
        dsimp only
        rw [hlen, vN_i64N (by omega), b3, b2, tB_nat]
        have c1 : UInt8.ofNat (unbe (List.take 1 l)) :: (List.take 2 (List.drop 1 l)) = List.take 1 l ++ List.take 2 (List.drop 1 l) := by
          show [UInt8.ofNat (unbe (List.take 1 l))] ++ _ = _
          rw [b1]
        rw [c1]
        have c4 : ∀ X : List UInt8, UInt8.ofNat (unbe (List.take 1 (List.drop 8 (List.drop 2 (List.drop 1 l))))) :: X = List.take 1 (List.drop 8 (List.drop 2 (List.drop 1 l))) ++ X := fun X => by
          show [UInt8.ofNat (unbe (List.take 1 (List.drop 8 (List.drop 2 (List.drop 1 l)))))] ++ X = _
          rw [b4]
        rw [c4]
        simp only [List.append_assoc, List.take_append_drop]
    · rename_i hok2
      simp only [Prod.mk.injEq] at h
      obtain ⟨_, _, h3, h4⟩ := h
      exact absurd (by rw [h4, h3]; rfl) hok2
  · rename_i hok
    simp only [Prod.mk.injEq] at h
    obtain ⟨_, _, h3, h4⟩ := h
    exact absurd (by rw [h4, h3]; rfl) hok
structure KidFit (k : Kid) : Prop where
  id : k.id < 65536
  t : 0 ≤ k.t ∧ k.t < 256
  page : 0 ≤ k.page ∧ k.page < 256
theorem kidRB_ok {l l' : List UInt8} {st : Int} {bad : Bool} {r : Kid} (h : kidRB l st bad = (r, l', 0, false)) : st = 0 ∧ bad = false ∧ l = kidB r ++ l' ∧ KidFit r := by
  unfold kidRB kidR at h
  dsimp only at h
  simp only [Prod.mk.injEq] at h
  obtain ⟨h1, h2, h3, h4⟩ := h
  obtain ⟨hs2, hl3, e3⟩ := numR_zero h3
  obtain ⟨hs1, hl2, e2⟩ := numR_zero hs2
  obtain ⟨rfl, hl1, e1⟩ := numR_zero hs1
  subst h1; subst h2
  simp only [e3]
  simp only [e2] at hl3 ⊢
  simp only [e1] at hl2 hl3 ⊢
  have b1 := be_take hl1
  have b2 := be_take hl2
  have b3 := be_take hl3
  rw [be_one] at b1 b3
  have u1 := unbe_lt (l.take 1)
  have u2 := unbe_lt ((l.drop 1).take 2)
  have u3 := unbe_lt (((l.drop 1).drop 2).take 1)
  rw [List.length_take, Nat.min_eq_left hl1] at u1
  rw [List.length_take, Nat.min_eq_left hl2] at u2
  rw [List.length_take, Nat.min_eq_left hl3] at u3
  refine ⟨by trivial, h4, ?_, ⟨by dsimp only; omega, by dsimp only; omega, by dsimp only; omega⟩⟩
  unfold kidB keyB
  dsimp only
  rw [b2, tB_nat, tB_nat]
  have c1 : ∀ X : List UInt8, UInt8.ofNat (unbe (List.take 1 l)) :: X = List.take 1 l ++ X := fun X => by
    show [UInt8.ofNat (unbe (List.take 1 l))] ++ X = _
    rw [b1]
  rw [c1, b3]
  simp only [List.append_assoc, List.take_append_drop]
theorem manyTo_ok {α : Type} {f : List UInt8 → Int → Bool → α × RS3} {enc : α → List UInt8} {fit : α → Prop} (hf : ∀ {l l' : List UInt8} {st : Int} {bad : Bool} {x : α}, f l st bad = (x, l', 0, false) → st = 0 ∧ bad = false ∧ l = enc x ++ l' ∧ fit x) :
    ∀ {n : Nat} {l l' : List UInt8} {st : Int} {bad : Bool} {xs : List α}, manyTo f n l st bad = (xs, l', 0, false) → st = 0 ∧ bad = false ∧ xs.length = n ∧ l = xs.flatMap enc ++ l' ∧ ∀ x ∈ xs, fit x
  | 0, l, l', st, bad, xs, h => by
    rw [manyTo] at h
    simp only [Prod.mk.injEq] at h
    obtain ⟨rfl, rfl, rfl, rfl⟩ := h
    exact ⟨rfl, rfl, rfl, by simp, by simp⟩
  | n + 1, l, l', st, bad, xs, h => by
    rw [manyTo] at h
    split at h
    · simp only [Prod.mk.injEq] at h
      obtain ⟨h1, h2⟩ := h
      have key : manyTo f n (f l st bad).2.1 (f l st bad).2.2.1 (f l st bad).2.2.2 = ((manyTo f n (f l st bad).2.1 (f l st bad).2.2.1 (f l st bad).2.2.2).1, l', 0, false) := by rw [← h2]
      obtain ⟨g1, g2, g3, g4, g5⟩ := manyTo_ok hf key
      obtain ⟨k1, k2, k3, k4⟩ := hf (show f l st bad = ((f l st bad).1, (f l st bad).2.1, 0, false) by rw [← g1, ← g2])
      subst h1
      refine ⟨k1, k2, by simp [g3], ?_, ?_⟩
      · rw [List.flatMap_cons, List.append_assoc, ← g4]; exact k3
      · intro x hx
        rcases List.mem_cons.1 hx with rfl | hx
        · exact k4
        · exact g5 x hx
    · rename_i hok
      simp only [Prod.mk.injEq] at h
      obtain ⟨_, _, h3, h4⟩ := h
      exact absurd (by rw [h4, h3]; rfl) hok
theorem manyR_ok {α : Type} {f : List UInt8 → Int → Bool → α × RS3} {enc : α → List UInt8} {fit : α → Prop} (hf : ∀ {l l' : List UInt8} {st : Int} {bad : Bool} {x : α}, f l st bad = (x, l', 0, false) → st = 0 ∧ bad = false ∧ l = enc x ++ l' ∧ fit x)
    {l l' : List UInt8} {st : Int} {bad : Bool} {xs : List α} (h : manyR f l st bad = (xs, l', 0, false)) : st = 0 ∧ bad = false ∧ l = UInt8.ofNat xs.length :: xs.flatMap enc ++ l' ∧ ∀ x ∈ xs, fit x := by
  unfold manyR at h
  obtain ⟨g1, g2, g3, g4, g5⟩ := manyTo_ok hf h
  obtain ⟨rfl, hl, e⟩ := numR_zero g1
  obtain ⟨k1, _⟩ := needB_false g2 g1
  rw [e] at g3 g4
  dsimp only at g3 g4
  refine ⟨rfl, k1, ?_, g5⟩
  have b1 := be_take hl
  rw [be_one, ← g3] at b1
  rw [show UInt8.ofNat xs.length :: xs.flatMap enc ++ l' = [UInt8.ofNat xs.length] ++ (xs.flatMap enc ++ l') from rfl, b1, ← g4, List.take_append_drop]
structure ContFit (c : Cont) : Prop where
  row : ∀ r ∈ c.rows, RowFit r
  kid : ∀ k ∈ c.kids, KidFit k
theorem contentR_ok {l l' : List UInt8} {c : Cont} (h : contentR l = (c, l', 0, false)) : contOk c = true ∧ l = contB c ++ l' ∧ ContFit c := by
  unfold contentR contE at h
  simp only [Prod.mk.injEq] at h
  obtain ⟨h1, h2, h3, h4⟩ := h
  generalize hm : contM (numR 1 l 0).1 (numR 1 l 0).2.1 (numR 1 l 0).2.2 (needB false (numR 1 l 0).2.2 (decide (((numR 1 l 0).1 : Int) ≤ 2))) = m at *
  obtain ⟨⟨rows, kids⟩, l2, st2, b2⟩ := m
  dsimp only at h1 h2 h3 h4
  subst h2; subst h3; subst h1
  obtain ⟨rfl, hok⟩ := needB_false h4 rfl
  refine ⟨hok, ?_⟩
  unfold contM at hm
  have hF := contOk_facts hok
  have hkind := hF.kind
  dsimp only at hkind
  split at hm
  · rename_i hokk
    rw [Bool.and_eq_true, Bool.not_eq_true'] at hokk
    obtain ⟨_, hs1⟩ := hokk
    have hs1 := of_decide_eq_true hs1
    obtain ⟨_, hl1, e1⟩ := numR_zero hs1
    have b1 := be_take hl1
    rw [be_one] at b1
    rw [e1] at hm hkind hok ⊢
    dsimp only at hm hkind hok ⊢
    generalize hx : unbe (List.take 1 l) = x at *
    have hl : l = UInt8.ofNat x :: l.drop 1 := by
      have : l = l.take 1 ++ l.drop 1 := (List.take_append_drop 1 l).symm
      rw [← b1] at this
      exact this
    split at hm
    · rename_i hx1
      simp only [Prod.mk.injEq] at hm
      obtain ⟨⟨h1, h2⟩, h3⟩ := hm
      subst h2
      have key : manyR rowR (l.drop 1) 0 (needB false 0 (decide ((x : Int) ≤ 2))) = (rows, l2, 0, false) := by rw [← h1, ← h3]
      obtain ⟨_, _, g3, g4⟩ := manyR_ok (enc := rowB) (fit := RowFit) (fun h => ⟨(rowR_ok h).1, (rowR_ok h).2.1, (rowR_ok h).2.2.2.1, (rowR_ok h).2.2.2.2⟩) key
      refine ⟨?_, ⟨g4, by simp⟩⟩
      have hc : contB ⟨x, rows, []⟩ = UInt8.ofNat x :: (UInt8.ofNat rows.length :: rows.flatMap rowB) := by
        unfold contB cntB
        rw [if_neg (by dsimp only; omega), tB_nat]; simp
      rw [hc, hl, g3]; rfl
    · split at hm
      · rename_i hx1 hx2
        simp only [Prod.mk.injEq] at hm
        obtain ⟨⟨h1, h2⟩, h3⟩ := hm
        subst h1
        have key : manyR kidRB (l.drop 1) 0 (needB false 0 (decide ((x : Int) ≤ 2))) = (kids, l2, 0, false) := by rw [← h2, ← h3]
        obtain ⟨_, _, g3, g4⟩ := manyR_ok (enc := kidB) (fit := KidFit) (fun h => kidRB_ok h) key
        refine ⟨?_, ⟨by simp, g4⟩⟩
        have hc : contB ⟨x, [], kids⟩ = UInt8.ofNat x :: (UInt8.ofNat kids.length :: kids.flatMap kidB) := by
          unfold contB cntB
          rw [if_neg (by dsimp only; omega), tB_nat]; simp
        rw [hc, hl, g3]; rfl
      · rename_i hx1 hx2
        simp only [Prod.mk.injEq] at hm
        obtain ⟨⟨h1, h2⟩, h3, _⟩ := hm
        subst h1; subst h2; subst h3
        have hx0 : (x : Int) = 0 := by
          rcases hkind with h | h | h
          · exact h.1
          · exact absurd (by omega) hx1
          · exact absurd (by omega) hx2
        refine ⟨?_, ⟨by simp, by simp⟩⟩
        have hc : contB ⟨x, [], []⟩ = [UInt8.ofNat x] := by
          unfold contB cntB
          rw [if_pos hx0, tB_nat]; simp
        rw [hc]; exact hl
  · rename_i hokk
    simp only [Prod.mk.injEq] at hm
    obtain ⟨⟨h1, h2⟩, h3, h4, h5⟩ := hm
    exact absurd (by rw [h5, h4]; rfl) hokk
theorem takenE_zero {bad : Bool} {st : Int} (h : takenE bad st = 0) : bad = false ∧ st = 0 := by
  cases bad
  · exact ⟨rfl, h⟩
  · simp [takenE] at h
theorem takeRow_ok {l : List UInt8} (h : (takeRowR l).2.2 = 0) : ∃ n : Nat, (takeRowR l).2.1 = n ∧ n ≤ l.length ∧ rowOk (takeRowR l).1 = true ∧ rowB (takeRowR l).1 = l.take n ∧ RowFit (takeRowR l).1 := by
  unfold takeRowR at h ⊢
  dsimp only at h ⊢
  obtain ⟨hb, hs⟩ := takenE_zero h
  generalize hr : rowR l 0 false = r at *
  obtain ⟨x, l', st, bad⟩ := r
  dsimp only at hb hs
  subst hb; subst hs
  obtain ⟨_, _, g1, g2, g3⟩ := rowR_ok hr
  have hl := congrArg List.length g2
  simp only [List.length_append] at hl
  refine ⟨(rowB x).length, ?_, by omega, ?_⟩
  · simp [takenN]; omega
  · simp only [Bool.false_or, ne_eq, not_true_eq_false, decide_false, Bool.false_eq_true, if_false]
    exact ⟨g1, by rw [g2]; simp, g3⟩
theorem takeCont_ok {l : List UInt8} (h : (takeContR l).2.2 = 0) : ∃ n : Nat, (takeContR l).2.1 = n ∧ n ≤ l.length ∧ contOk (takeContR l).1 = true ∧ contB (takeContR l).1 = l.take n ∧ ContFit (takeContR l).1 := by
  unfold takeContR at h ⊢
  dsimp only at h ⊢
  obtain ⟨hb, hs⟩ := takenE_zero h
  generalize hr : contentR l = r at *
  obtain ⟨x, l', st, bad⟩ := r
  dsimp only at hb hs
  subst hb; subst hs
  obtain ⟨g1, g2, g3⟩ := contentR_ok hr
  have hl := congrArg List.length g2
  simp only [List.length_append] at hl
  refine ⟨(contB x).length, ?_, by omega, ?_⟩
  · simp [takenN]; omega
  · simp only [Bool.false_or, ne_eq, not_true_eq_false, decide_false, Bool.false_eq_true, if_false]
    exact ⟨g1, by rw [g2]; simp, g3⟩
theorem takeCont_bad {l : List UInt8} (h : (takeContR l).2.2 ≠ 0) : (takeContR l).1 = ⟨0, [], []⟩ ∧ (takeContR l).2.1 = 0 := by
  unfold takeContR at h ⊢
  dsimp only at h ⊢
  generalize contentR l = r at *
  obtain ⟨x, l', st, bad⟩ := r
  dsimp only at h ⊢
  cases bad
  · have hs : st ≠ 0 := h
    simp [takenN, hs]
  · simp [takenN]
theorem contB_len {c : Cont} (h : contOk c = true) : (contB c).length ≤ 82 := by
  have hF := contOk_facts h
  have h1 := flatMap_le rowB 20 c.rows (fun x hx => rowB_le (hF.row x hx))
  have h2 := flatMap_le kidB 4 c.kids (fun x hx => Nat.le_of_eq (kidB_len x))
  have h3 : (cntB c).length ≤ 1 := by unfold cntB; split <;> simp
  have hk := hF.kind
  have hrl := hF.rl
  have hkl := hF.kl
  simp only [contB, List.length_cons, List.length_append]
  have er : c.rows = [] → (c.rows.flatMap rowB).length = 0 := fun e => by rw [e]; rfl
  have ek : c.kids = [] → (c.kids.flatMap kidB).length = 0 := fun e => by rw [e]; rfl
  rcases hk with ⟨_, hr, hk⟩ | ⟨_, hk⟩ | ⟨_, hr, _⟩
  · have := er hr; have := ek hk; omega
  · have := ek hk; omega
  · have := er hr; omega
end Go.Proofs.E

namespace Go.Proofs.E
open Go
set_option linter.unusedVariables false
set_option linter.unusedSimpArgs false
set_option linter.unusedSectionVars false
set_option maxRecDepth 4000
set_option maxHeartbeats 1000000
attribute [local irreducible] Yl TL TC TE Spec YSpec R1 Hp.le EnvLe TS TR YS Stays
/-! ## what was laid is taken back; less is too short -/
theorem numR_app {k : Nat} {x rest : List UInt8} (h : x.length = k) : numR k (x ++ rest) 0 = (unbe x, rest, 0) := by
  unfold numR
  rw [if_neg (by simp), if_neg (by simp; omega), List.take_left' h, List.drop_left' h]
theorem numR_short {k : Nat} {x : List UInt8} (h : x.length < k) : numR k x 0 = (0, x, 7) := by
  unfold numR
  rw [if_neg (by simp), if_pos h]
theorem numR_seven {k : Nat} {x : List UInt8} : numR k x 7 = (0, x, 7) := by
  unfold numR
  rw [if_pos (by decide)]
theorem unbe_one (b : UInt8) : unbe [b] = b.toNat := by simp [unbe]
theorem tB_toNat {t : Int} (h0 : 0 ≤ t) (h1 : t < 256) : ((tB t).toNat : Int) = t := by
  obtain ⟨n, rfl⟩ : ∃ n : Nat, t = n := ⟨t.toNat, by omega⟩
  simp only [tB, Int.toNat_natCast, UInt8.toNat_ofNat']
  have e : (2 : Nat) ^ 8 = 256 := by decide
  rw [e]; omega
theorem rowR_back {r : Row} (hr : rowOk r = true) (hf : RowFit r) (rest : List UInt8) : rowR (rowB r ++ rest) 0 false = (r, rest, 0, false) := by
  obtain ⟨h0, h3, h8⟩ := rowOk_iff hr
  obtain ⟨hid, hval⟩ := hf
  obtain ⟨t, id, val, note⟩ := r
  dsimp only at h0 h3 h8 hid hval
  have e0 : rowB ⟨t, id, val, note⟩ ++ rest = [tB t] ++ (be 2 id ++ (be 8 (vN val) ++ ([UInt8.ofNat note.length] ++ (note ++ rest)))) := by simp [rowB, keyB]
  have e1 : numR 1 (rowB ⟨t, id, val, note⟩ ++ rest) 0 = ((tB t).toNat, be 2 id ++ (be 8 (vN val) ++ ([UInt8.ofNat note.length] ++ (note ++ rest))), 0) := by rw [e0, numR_app (k := 1) (x := [tB t]) rfl, unbe_one]
  have e2 := numR_app (k := 2) (x := be 2 id) (rest := be 8 (vN val) ++ ([UInt8.ofNat note.length] ++ (note ++ rest))) (be_length _ _)
  have e3 := numR_app (k := 8) (x := be 8 (vN val)) (rest := [UInt8.ofNat note.length] ++ (note ++ rest)) (be_length _ _)
  have e4 := numR_app (k := 1) (x := [UInt8.ofNat note.length]) (rest := note ++ rest) rfl
  rw [unbe_be, Nat.mod_eq_of_lt (by omega)] at e2
  rw [unbe_be, Nat.mod_eq_of_lt (by have := vN_lt val; omega)] at e3
  have hlen : (UInt8.ofNat note.length).toNat = note.length := by
    rw [UInt8.toNat_ofNat']
    have e : (2 : Nat) ^ 8 = 256 := by decide
    rw [e]; omega
  rw [unbe_one, hlen] at e4
  have e5 : rawR note.length (note ++ rest) 0 = (note, rest, 0) := by
    unfold rawR
    rw [if_neg (by simp), if_neg (by simp), List.take_left' rfl, List.drop_left' rfl]
  have ht := tB_toNat h0 (by omega : t < 256)
  unfold rowR
  simp only [e1, e2, e3, e4, e5]
  have hb1 : needB false 0 (decide (((tB t).toNat : Int) < 3)) = false := by rw [ht, decide_eq_true h3]; rfl
  have hb2 : needB false 0 (decide ((note.length : Int) ≤ 8)) = false := by rw [decide_eq_true (by omega)]; rfl
  simp only [hb1, hb2, Bool.not_false, decide_true, Bool.and_self, if_true]
  rw [ht, i64N_vN hval]
theorem kidRB_back {k : Kid} (hid : k.id < 65536) (ht : 0 ≤ k.t ∧ k.t < 3) (hp : 0 < k.page ∧ k.page < 64) (rest : List UInt8) : kidRB (kidB k ++ rest) 0 false = (k, rest, 0, false) := by
  obtain ⟨t, id, page⟩ := k
  dsimp only at hid ht hp
  have e0 : kidB ⟨t, id, page⟩ ++ rest = [tB t] ++ (be 2 id ++ ([tB page] ++ rest)) := by simp [kidB, keyB]
  have e1 : numR 1 (kidB ⟨t, id, page⟩ ++ rest) 0 = ((tB t).toNat, be 2 id ++ ([tB page] ++ rest), 0) := by rw [e0, numR_app (k := 1) (x := [tB t]) rfl, unbe_one]
  have e2 := numR_app (k := 2) (x := be 2 id) (rest := [tB page] ++ rest) (be_length _ _)
  have e3 := numR_app (k := 1) (x := [tB page]) (rest := rest) rfl
  rw [unbe_be, Nat.mod_eq_of_lt (by omega)] at e2
  rw [unbe_one] at e3
  unfold kidRB kidR
  simp only [e1, e2, e3, tB_toNat ht.1 (by omega : t < 256), tB_toNat (by omega : 0 ≤ page) (by omega : page < 256)]
theorem manyTo_back {α : Type} {f : List UInt8 → Int → Bool → α × RS3} {enc : α → List UInt8} : ∀ (xs : List α), (∀ x ∈ xs, ∀ rest, f (enc x ++ rest) 0 false = (x, rest, 0, false)) → ∀ rest, manyTo f xs.length (xs.flatMap enc ++ rest) 0 false = (xs, rest, 0, false)
  | [], _, rest => rfl
  | x :: xs, h, rest => by
    rw [List.length_cons, manyTo, if_pos (by decide), List.flatMap_cons, List.append_assoc, h x (by simp)]
    dsimp only
    rw [manyTo_back xs (fun y hy => h y (by simp [hy]))]
theorem manyR_back {α : Type} {f : List UInt8 → Int → Bool → α × RS3} {enc : α → List UInt8} {xs : List α} (hl : xs.length ≤ 4) (h : ∀ x ∈ xs, ∀ rest, f (enc x ++ rest) 0 false = (x, rest, 0, false)) (rest : List UInt8) :
    manyR f (UInt8.ofNat xs.length :: (xs.flatMap enc ++ rest)) 0 false = (xs, rest, 0, false) := by
  have hlen : (UInt8.ofNat xs.length).toNat = xs.length := by
    rw [UInt8.toNat_ofNat']
    have e : (2 : Nat) ^ 8 = 256 := by decide
    rw [e]; omega
  have e1 : numR 1 (UInt8.ofNat xs.length :: (xs.flatMap enc ++ rest)) 0 = (xs.length, xs.flatMap enc ++ rest, 0) := by
    have := numR_app (k := 1) (x := [UInt8.ofNat xs.length]) (rest := xs.flatMap enc ++ rest) rfl
    rw [unbe_one, hlen] at this
    exact this
  unfold manyR
  simp only [e1]
  have hb : needB false 0 (decide ((xs.length : Int) ≤ 4)) = false := by rw [decide_eq_true (by omega)]; rfl
  rw [hb]
  exact manyTo_back xs h rest
structure IdFit (c : Cont) : Prop where
  row : ∀ r ∈ c.rows, RowFit r
  kid : ∀ k ∈ c.kids, k.id < 65536
theorem contB_form {c : Cont} (h : contOk c = true) : (c.kind = 0 ∧ c = ⟨0, [], []⟩ ∧ contB c = [0]) ∨ (c.kind = 1 ∧ c.kids = [] ∧ contB c = 1 :: (UInt8.ofNat c.rows.length :: c.rows.flatMap rowB)) ∨ (c.kind = 2 ∧ c.rows = [] ∧ contB c = 2 :: (UInt8.ofNat c.kids.length :: c.kids.flatMap kidB)) := by
  have hF := (contOk_facts h).kind
  obtain ⟨kind, rows, kids⟩ := c
  dsimp only at hF ⊢
  rcases hF with ⟨rfl, rfl, rfl⟩ | ⟨rfl, rfl⟩ | ⟨rfl, rfl, _⟩
  · exact .inl ⟨rfl, rfl, by simp [contB, cntB]; rfl⟩
  · exact .inr (.inl ⟨rfl, rfl, by simp [contB, cntB]; rfl⟩)
  · exact .inr (.inr ⟨rfl, rfl, by simp [contB, cntB]; rfl⟩)
theorem contentR_back {c : Cont} (h : contOk c = true) (hf : IdFit c) (rest : List UInt8) : contentR (contB c ++ rest) = (c, rest, 0, false) := by
  have hF := contOk_facts h
  have hrb : ∀ r ∈ c.rows, ∀ rest, rowR (rowB r ++ rest) 0 false = (r, rest, 0, false) := fun r hr rest => rowR_back (hF.row r hr) (hf.row r hr) rest
  have hkb : ∀ k ∈ c.kids, ∀ rest, kidRB (kidB k ++ rest) 0 false = (k, rest, 0, false) := fun k hk rest => kidRB_back (hf.kid k hk) (hF.kid k hk).1 (hF.kid k hk).2 rest
  have hrl := hF.rl
  have hkl := hF.kl
  rcases contB_form h with ⟨hk, rfl, e⟩ | ⟨hk, hks, e⟩ | ⟨hk, hrs, e⟩
  · rw [e]
    have e1 : numR 1 ([0] ++ rest) 0 = (0, rest, 0) := by rw [numR_app (k := 1) (x := [0]) rfl]; rfl
    unfold contentR contE
    simp only [e1]
    rfl
  · obtain ⟨kind, rows, kids⟩ := c
    dsimp only at hk hks
    subst hk; subst hks
    rw [e]
    have e1 : numR 1 (1 :: (UInt8.ofNat rows.length :: rows.flatMap rowB) ++ rest) 0 = (1, UInt8.ofNat rows.length :: (rows.flatMap rowB ++ rest), 0) := by
      have := numR_app (k := 1) (x := [1]) (rest := UInt8.ofNat rows.length :: (rows.flatMap rowB ++ rest)) rfl
      exact this
    have hb : needB false 0 (decide (((1 : Nat) : Int) ≤ 2)) = false := rfl
    unfold contentR contE
    simp only [e1, hb, contM, manyR_back hrl hrb rest, Bool.not_false, decide_true, Bool.and_self, if_true]
    have hn : needB false 0 (contOk ⟨((1 : Nat) : Int), rows, []⟩) = false := by rw [show contOk ⟨((1 : Nat) : Int), rows, []⟩ = true from h]; rfl
    rw [hn]; rfl
  · obtain ⟨kind, rows, kids⟩ := c
    dsimp only at hk hrs
    subst hk; subst hrs
    rw [e]
    have e1 : numR 1 (2 :: (UInt8.ofNat kids.length :: kids.flatMap kidB) ++ rest) 0 = (2, UInt8.ofNat kids.length :: (kids.flatMap kidB ++ rest), 0) := by
      have := numR_app (k := 1) (x := [2]) (rest := UInt8.ofNat kids.length :: (kids.flatMap kidB ++ rest)) rfl
      exact this
    have hb : needB false 0 (decide (((2 : Nat) : Int) ≤ 2)) = false := rfl
    unfold contentR contE
    simp only [e1, hb, contM, manyR_back hkl hkb rest, Bool.not_false, decide_true, Bool.and_self, if_true, show ¬ ((2 : Nat) = 1) by decide, if_false]
    have hn : needB false 0 (contOk ⟨((2 : Nat) : Int), [], kids⟩) = false := by rw [show contOk ⟨((2 : Nat) : Int), [], kids⟩ = true from h]; rfl
    rw [hn]; rfl
theorem takeCont_back {c : Cont} (h : contOk c = true) (hf : IdFit c) (rest : List UInt8) : takeContR (contB c ++ rest) = (c, (((contB c).length : Nat) : Int), 0) := by
  unfold takeContR
  simp only [contentR_back h hf rest]
  simp [takenN, takenE]
theorem takeRow_back {r : Row} (h : rowOk r = true) (hf : RowFit r) (rest : List UInt8) : takeRowR (rowB r ++ rest) = (r, (((rowB r).length : Nat) : Int), 0) := by
  unfold takeRowR
  simp only [rowR_back h hf rest]
  simp [takenN, takenE]
end Go.Proofs.E

namespace Go.Proofs.E
open Go
set_option linter.unusedVariables false
set_option linter.unusedSimpArgs false
set_option linter.unusedSectionVars false
set_option maxRecDepth 4000
set_option maxHeartbeats 1000000
attribute [local irreducible] Yl TL TC TE Spec YSpec R1 Hp.le EnvLe TS TR YS Stays
/-! ## records as data -/
/-- a content that stands in memory, with what may stand in rows and kids -/
structure CI (ρ : Hp) (v : CV) (c : Cont) : Prop where
  cin : CIn ρ v c.rows c.kids
  row : ∀ r ∈ c.rows, RowFit r
  kid : ∀ k ∈ c.kids, k.id < 65536
theorem CI.mono {ρ ρ' v c} (h : CI ρ v c) (hle : ρ.le ρ') : CI ρ' v c := ⟨h.cin.mono hle, h.row, h.kid⟩
theorem CI.nil {ρ : Hp} : CI ρ ⟨none, 0, 0, none, 0, 0⟩ ⟨0, [], []⟩ := ⟨CIn.nil, by simp, by simp⟩
/-- an image: what it says, and where its rows and kids stand -/
structure Im where
  page : Int
  bv : CV
  b : Cont
  av : CV
  a : Cont
abbrev imV (x : Im) : List Value := [.int .i64 x.page, .int .i64 x.b.kind, .slice x.bv.ra x.bv.rn x.bv.rc, .slice x.bv.ka x.bv.kn x.bv.kc, .int .i64 x.a.kind, .slice x.av.ra x.av.rn x.av.rc, .slice x.av.ka x.av.kn x.av.kc]
structure Im.In (ρ : Hp) (x : Im) : Prop where
  b : CI ρ x.bv x.b
  a : CI ρ x.av x.a
theorem Im.In.mono {ρ ρ' x} (h : Im.In ρ x) (hle : ρ.le ρ') : Im.In ρ' x := ⟨h.b.mono hle, h.a.mono hle⟩
/-- what an image says -/
abbrev Im.says (x : Im) : Int × Cont × Cont := (x.page, x.b, x.a)
structure Stp where
  kind : Int
  row : Row
  by' : Int
deriving DecidableEq
abbrev stpV (s : Stp) : List Value := [.int .i64 s.kind, .int .i64 s.row.t, .int .u16 s.row.id, .int .i64 s.row.val, strV s.row.note, .int .i64 s.by']
structure CkT where
  txn : Int
  first : Nat
  last : Nat
  undo : Nat
  state : Int
deriving DecidableEq
abbrev ckTV (t : CkT) : List Value := [.int .i64 t.txn, .int .u64 t.first, .int .u64 t.last, .int .u64 t.undo, .int .i64 t.state]
structure CkP where
  page : Int
  since : Nat
deriving DecidableEq
abbrev ckPV (p : CkP) : List Value := [.int .i64 p.page, .int .u64 p.since]
structure Rc where
  kind : Int
  lsn : Nat
  txn : Int
  prev : Nat
  next : Nat
  ims : List Im
  steps : List Stp
  nextTxn : Int
  txns : List CkT
  dirty : List CkP
/-- where a slice stands -/
structure SV where
  a : Option Addr
  n : Nat
  c : Nat
abbrev SV.v (s : SV) : Value := .slice s.a s.n s.c
structure RV where
  i : SV
  s : SV
  t : SV
  d : SV
abbrev recV (v : RV) (r : Rc) : List Value := [.int .i64 r.kind, .int .u64 r.lsn, .int .i64 r.txn, .int .u64 r.prev, .int .u64 r.next, .slice v.i.a v.i.n v.i.c, .slice v.s.a v.s.n v.s.c, .int .i64 r.nextTxn, .slice v.t.a v.t.n v.t.c, .slice v.d.a v.d.n v.d.c]
theorem imV_len (x : Im) : (imV x).length = 7 := rfl
theorem imV_one (x : Im) : (imV x).all (·.oneCell') = true := rfl
theorem stpV_len (x : Stp) : (stpV x).length = 6 := rfl
theorem stpV_one (x : Stp) : (stpV x).all (·.oneCell') = true := rfl
theorem ckTV_len (x : CkT) : (ckTV x).length = 5 := rfl
theorem ckTV_one (x : CkT) : (ckTV x).all (·.oneCell') = true := rfl
theorem ckPV_len (x : CkP) : (ckPV x).length = 2 := rfl
theorem ckPV_one (x : CkP) : (ckPV x).all (·.oneCell') = true := rfl
abbrev i64in (x : Int) : Prop := -9223372036854775808 ≤ x ∧ x ≤ 9223372036854775807
abbrev u64in (x : Nat) : Prop := x < 18446744073709551616
structure StpFit (s : Stp) : Prop where
  kind : i64in s.kind
  row : RowFit s.row
  t : i64in s.row.t
  by' : i64in s.by'
structure CkTFit (t : CkT) : Prop where
  txn : i64in t.txn
  first : u64in t.first
  last : u64in t.last
  undo : u64in t.undo
  state : i64in t.state
structure CkPFit (p : CkP) : Prop where
  page : i64in p.page
  since : u64in p.since
structure RcFit (r : Rc) : Prop where
  kind : i64in r.kind
  lsn : u64in r.lsn
  txn : i64in r.txn
  prev : u64in r.prev
  next : u64in r.next
  nextTxn : i64in r.nextTxn
  page : ∀ x ∈ r.ims, i64in x.page
  step : ∀ s ∈ r.steps, StpFit s
  ckt : ∀ t ∈ r.txns, CkTFit t
  ckp : ∀ p ∈ r.dirty, CkPFit p
/-- a slice of parts, not too long -/
structure AS (ρ : Hp) (sz : Nat) {α : Type} (g : α → List Value) (s : SV) (l : List α) : Prop where
  at' : AIn ρ sz g s.a s.n l
  big : s.n ≤ 1000000
  cap : s.n ≤ s.c
theorem AS.mono {ρ ρ' : Hp} {sz : Nat} {α : Type} {g : α → List Value} {s : SV} {l : List α} (h : AS ρ sz g s l) (hle : ρ.le ρ') : AS ρ' sz g s l := ⟨h.at'.mono hle, h.big, h.cap⟩
theorem AS.nil {ρ : Hp} {sz : Nat} {α : Type} {g : α → List Value} : AS ρ sz g ⟨none, 0, 0⟩ [] := ⟨AIn.nil, Nat.zero_le _, Nat.le_refl _⟩
/-- a record stands in memory -/
structure RcIn (ρ : Hp) (v : RV) (r : Rc) : Prop where
  i : AS ρ 7 imV v.i r.ims
  im : ∀ x ∈ r.ims, Im.In ρ x
  s : AS ρ 6 stpV v.s r.steps
  t : AS ρ 5 ckTV v.t r.txns
  d : AS ρ 2 ckPV v.d r.dirty
  sf : ∀ s ∈ r.steps, RowFit s.row
theorem RcIn.mono {ρ ρ' v r} (h : RcIn ρ v r) (hle : ρ.le ρ') : RcIn ρ' v r := ⟨h.i.mono hle, fun x hx => (h.im x hx).mono hle, h.s.mono hle, h.t.mono hle, h.d.mono hle, h.sf⟩
/-! ### which records may be -/
def upB {α : Type} (right : α → Bool) (by' : α → Int) (l : List α) (k : Nat) : Bool := risesB l.length (fun _ x => right x) (fun y x => decide (by' y < by' x)) l k
def pageOk (n : Int) : Bool := decide (0 ≤ n ∧ n < 64)
def imOk (before : Bool) (x : Im) : Bool := pageOk x.page && (contOk x.a && (contOk x.b && (before || decide (x.b.kind = 0))))
def imsOk (before : Bool) (l : List Im) : Bool := decide (l.length ≤ 16) && upB (imOk before) Im.page l l.length
def onlyOk (s : Stp) : Bool := decide (s.row.val = 0 ∧ s.row.note = []) && decide (0 ≤ s.row.t ∧ s.row.t < 3)
def stepOk (s : Stp) : Bool :=
  if s.kind = 1 then onlyOk s
  else if s.kind = 4 then onlyOk s && decide (s.by' = 0)
  else if s.kind = 2 ∨ s.kind = 3 then decide (s.by' = 0) && rowOk s.row
  else false
def ckTOk (lsn : Nat) (next : Int) (t : CkT) : Bool := decide (1 ≤ t.txn ∧ t.txn < next ∧ 1 ≤ t.first ∧ t.first ≤ t.last ∧ t.last < lsn ∧ t.undo ≤ t.last ∧ 1 ≤ t.state ∧ t.state ≤ 3)
def ckPOk (lsn : Nat) (p : CkP) : Bool := pageOk p.page && decide (1 ≤ p.since ∧ p.since < lsn)
def headOk (r : Rc) : Bool := decide (1 ≤ r.lsn ∧ r.lsn ≤ 1099511627776 ∧ r.prev < r.lsn ∧ 0 ≤ r.txn ∧ r.txn ≤ 1073741824 ∧ (r.kind = 9 ↔ r.txn = 0) ∧ ((r.kind = 9 ∨ r.kind = 1) ↔ r.prev = 0))
/-- what is asked of a kind: what it blanks -/
def askOk (r : Rc) : Bool :=
  if r.kind = 2 then decide (0 < r.ims.length) && imsOk true r.ims
  else if r.kind = 3 then decide (r.next < r.prev)
  else if r.kind = 4 then decide (r.next < r.prev) && (decide (0 < r.steps.length ∧ r.steps.length ≤ 2) && r.steps.all stepOk)
  else if r.kind = 5 then decide (r.next < r.lsn) && imsOk false r.ims
  else if r.kind = 9 then decide (1 ≤ r.nextTxn ∧ r.nextTxn ≤ 1073741824 ∧ r.txns.length ≤ 8) && (upB (ckTOk r.lsn r.nextTxn) CkT.txn r.txns r.txns.length && upB (ckPOk r.lsn) CkP.page r.dirty r.dirty.length)
  else true
/-- nothing besides -/
def bareOk (r : Rc) : Bool := decide (
  (r.next = 0 ∨ r.kind = 3 ∨ r.kind = 4 ∨ r.kind = 5) ∧ (r.ims = [] ∨ r.kind = 2 ∨ r.kind = 5) ∧ (r.steps = [] ∨ r.kind = 4) ∧
  ((r.txns = [] ∧ r.dirty = [] ∧ r.nextTxn = 0) ∨ r.kind = 9))
def recOk (r : Rc) : Bool := decide (1 ≤ r.kind ∧ r.kind ≤ 9) && (headOk r && (askOk r && bareOk r))
end Go.Proofs.E

