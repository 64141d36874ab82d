/- Contents of layer 3, disks of layer 2 and files of layer 14 as data, and what their functions come to. Part 4 of 6. -/
import Derived.Test.YtncenainkaofmaaF3
namespace Go.Proofs.E
open Go
set_option linter.unusedVariables false
set_option linter.unusedSimpArgs false
set_option linter.unusedSectionVars false
set_option maxRecDepth 4000
set_option maxHeartbeats 1000000
attribute [local irreducible] Yl TL TC TE Spec YSpec R1 Hp.le EnvLe TS TR YS Stays
/-! ## codec: bytes of rows -/
def tB (t : Int) : UInt8 := UInt8.ofNat t.toNat
def keyB (t : Int) (id : Nat) : List UInt8 := tB t :: be 2 id
def vN (v : Int) : Nat := (IntKind.u64.wrap v).toNat
theorem vN_eq (v : Int) : IntKind.u64.wrap v = (vN v : Nat) := by
  have : 0 ≤ IntKind.u64.wrap v := by simp only [IntKind.wrap, IntKind.bits, IntKind.signed, Bool.false_and, Bool.false_eq_true, if_false]; omega
  simp [vN]; omega
theorem vN_lt (v : Int) : vN v < 18446744073709551616 := by
  have : IntKind.u64.wrap v < 18446744073709551616 := by simp only [IntKind.wrap, IntKind.bits, IntKind.signed, Bool.false_and, Bool.false_eq_true, if_false]; omega
  have h := vN_eq v
  omega
def rowB (r : Row) : List UInt8 := keyB r.t r.id ++ (be 8 (vN r.val) ++ (UInt8.ofNat r.note.length :: r.note))
theorem tB_eq {t : Int} (h0 : 0 ≤ t) (h1 : t < 256) : Value.int .u8 t = u8c (tB t) := by
  obtain ⟨n, rfl⟩ : ∃ n : Nat, t = n := ⟨t.toNat, by omega⟩
  simp only [u8c, tB, Int.toNat_natCast, UInt8.toNat_ofNat']
  congr 1
  have e : (2 : Nat) ^ 8 = 256 := by decide
  rw [e]
  omega
theorem key_spec (ρ : Hp) (v : Value) (n : Nat) (l : List UInt8) (sp : List Value) (hown : OwnS v n (l.map u8c) sp 1) (hn : n ≤ 100000) (t : Int) (id : Nat) (h0 : 0 ≤ t) (h3 : t < 256) (hid : id < 65536) :
    Spec Try.prog 135 [v, .agg ⟨keyV t id⟩] ρ [ownC v (l.map u8c) sp 5] (fun r ρ' L' => ρ.le ρ' ∧ ∃ sp', OwnS r (n + 3) ((l ++ keyB t id).map u8c) sp' 1 ∧ L' = [ownC r ((l ++ keyB t id).map u8c) sp' 5]) := by
  have hl : l.length = n := by obtain ⟨_, _, _, h⟩ := hown.len; simpa using h
  refine spec_enter Try.func135 rfl rfl rfl fun u R => ?_
  simp only [argsE, List.cons_append, List.nil_append]
  repeat' (first | (refine i_op ?_; first | (refine i_qq ?_; refine qQ ?_) | refine qEf ?_) | refine tl_nil ?_ | (refine i_tc ?_; refine qTc ?_) | (refine i_te ?_; refine qTe ?_) | intro _)
  rename_i b3
  refine tc_any (Stays _ _ ([[(b3, .cells ⟨keyV t id⟩ 127 (0, 0))]])) (stays_of (hT := tk) (Hp.le_refl _)) ?_
  all_goals refine rMv 0 ?_
  all_goals refine rFa 1 ?_
  all_goals refine rLd 2 ?_
  all_goals refine rCv 3 ?_
  all_goals refine rFa 6 ?_
  all_goals refine rLd 7 ?_
  all_goals (refine rStep (i := 4) ?_; ((try refine qWant ?_); (first | (refine tl_buildSlice_s rfl rfl rfl rfl (by simp) rfl rfl (fun _ => ?_); simp only [tB_eq h0 h3]) | (refine qEf ?_; try intro _)) <;> ((try simp only [List.cons_append, List.nil_append, List.append_eq]); refine tl_nil ?_; refine rNext ?_)))
  all_goals (refine rStep (i := 5) ?_; ((try refine qWant ?_); (first | (refine tl_app (ys := [u8c (tB t)]) (m := 1) rfl rfl hown (hR := by infer_instance) SrcV.lit rfl rfl (by decide) rfl (by omega) (by omega) rfl (fun v' sp' hown' => ?_); rw [show l.map u8c ++ [u8c (tB t)] = (l ++ [tB t]).map u8c by simp] at hown' ⊢; refine tl_freeze _ (h := Rem.here) (fun ρ2 hle2 hfz => ?_); obtain ⟨a', c', rfl, hc', hs⟩ := hown'.sIn hfz) | (refine qEf ?_; try intro _)) <;> ((try simp only [List.cons_append, List.nil_append, List.append_eq]); refine tl_nil ?_; refine rNext ?_)))
  all_goals (refine rStep (i := 8) ?_; ((try refine qWant ?_); (first | (refine tl_is (.func 144) ?_; refine qC rfl rfl (put16_spec _ a' _ c' _ hs id hid (by omega)) ?_; rintro v ρ' L' hle ⟨rfl, sp2, hown2, rfl⟩ <;> (try simp only [List.cons_append, List.nil_append, List.append_eq])) | (refine qEf ?_; try intro _)) <;> ((try simp only [List.cons_append, List.nil_append, List.append_eq]); refine tl_nil ?_; refine rNext ?_)))
  all_goals refine rFull ?_
  all_goals refine rAs 9 ?_
  all_goals refine rDone ?_
  have e : l ++ [tB t] ++ be 2 id = l ++ keyB t id := by rw [List.append_assoc]; rfl
  rw [e] at hown2 ⊢
  repeat' (first | (refine i_op ?_; first | (refine i_qq ?_; refine qQ ?_) | refine qEf ?_) | refine tl_nil ?_ | (refine i_tc ?_; refine qTc ?_) | (refine i_te ?_; refine qTe ?_) | intro _)
  exact qE ⟨hle2, sp2, hown2, rfl⟩
theorem rowOk_iff {r : Row} (h : rowOk r = true) : 0 ≤ r.t ∧ r.t < 3 ∧ r.note.length ≤ 8 := by
  have := of_decide_eq_true h
  exact ⟨this.1.1, this.1.2, this.2⟩
theorem lenB {n : Nat} (h : n ≤ 200) : Value.int .u8 (n : Int) = u8c (UInt8.ofNat n) := by
  simp only [u8c, UInt8.toNat_ofNat']
  congr 1
  have e : (2 : Nat) ^ 8 = 256 := by decide
  rw [e]
  omega
theorem claid_spec (ρ : Hp) (v : Value) (n : Nat) (l : List UInt8) (sp : List Value) (hown : OwnS v n (l.map u8c) sp 1) (hn : n ≤ 1000) (r : Row) (hr : rowOk r = true) (hid : r.id < 65536) :
    Spec Try.prog 134 [v, .agg ⟨rowV r⟩] ρ [ownC v (l.map u8c) sp 5] (fun q ρ' L' => ρ.le ρ' ∧ ∃ sp', OwnS q (n + (rowB r).length) ((l ++ rowB r).map u8c) sp' 1 ∧ L' = [ownC q ((l ++ rowB r).map u8c) sp' 5]) := by
  obtain ⟨h0, h3, h8⟩ := rowOk_iff hr
  have hl : l.length = n := by obtain ⟨_, _, _, h⟩ := hown.len; simpa using h
  have hvl := vN_lt r.val
  have hkb : (keyB r.t r.id).length = 3 := by simp [keyB, be_length]
  have hlb := lenB (n := r.note.length) (by omega)
  refine spec_enter Try.func134 rfl rfl rfl fun u R => ?_
  simp only [argsE, List.cons_append, List.nil_append]
  repeat' (first | (refine i_op ?_; first | (refine i_qq ?_; refine qQ ?_) | refine qEf ?_) | refine tl_nil ?_ | (refine i_tc ?_; refine qTc ?_) | (refine i_te ?_; refine qTe ?_) | intro _)
  rename_i b3
  refine tc_any (Stays _ _ ([[(b3, .cells ⟨rowV r⟩ 129 (0, 0))]])) (stays_of (hT := tk) (Hp.le_refl _)) ?_
  all_goals refine rMv 0 ?_
  all_goals refine rFa 1 ?_
  all_goals refine rLd 2 ?_
  all_goals refine rFa 4 ?_
  all_goals refine rLd 5 ?_
  all_goals refine rCv 6 ?_
  all_goals (refine rStep (i := 3) ?_; ((try refine qWant ?_); (first | (simp only [vN_eq]; refine tl_is (.func 135) ?_; refine qC rfl rfl (key_spec _ v n l sp hown (by omega) r.t r.id h0 (by omega) hid) ?_; rintro v1 ρ1 L1 hle0 ⟨hle1, sp1, hown1, rfl⟩; simp only [List.cons_append, List.nil_append]; refine tl_freeze _ (h := Rem.here) (fun ρ2 hle2 hfz => ?_); obtain ⟨a1, c1, rfl, hc1, hs1⟩ := hown1.sIn hfz) | (refine qEf ?_; try intro _)) <;> ((try simp only [List.cons_append, List.nil_append, List.append_eq]); refine tl_nil ?_; refine rNext ?_)))
  all_goals (refine rStep (i := 7) ?_; ((try refine qWant ?_); (first | (refine tl_is (.func 104) ?_; refine qC rfl rfl (put64_spec _ a1 _ c1 _ hs1 (vN r.val) hvl (by omega)) ?_; rintro v ρ' L' hle ⟨rfl, sp3, hown3, rfl⟩ <;> (try simp only [List.cons_append, List.nil_append, List.append_eq])) | (refine qEf ?_; try intro _)) <;> ((try simp only [List.cons_append, List.nil_append, List.append_eq]); refine tl_nil ?_; refine rNext ?_)))
  all_goals refine rFull ?_
  all_goals refine rAs 8 ?_
  all_goals refine rDone ?_
  repeat' (first | (refine i_op ?_; first | (refine i_qq ?_; refine qQ ?_) | refine qEf ?_) | refine tl_nil ?_ | (refine i_tc ?_; refine qTc ?_) | (refine i_te ?_; refine qTe ?_) | intro _)
  refine tc_any (Stays _ _ ([[(b3, .cells ⟨rowV r⟩ 129 (0, 0))]])) (stays_of (hT := tk) (Hp.le_refl _)) ?_
  all_goals refine rMv 0 ?_
  all_goals refine rFa 1 ?_
  all_goals refine rLd 2 ?_
  all_goals refine rBi 3 ?_
  all_goals refine rCv 4 ?_
  all_goals refine rFa 7 ?_
  all_goals refine rLd 8 ?_
  all_goals (refine rStep (i := 5) ?_; ((try refine qWant ?_); (first | (refine tl_buildSlice_s rfl rfl rfl rfl (by simp) rfl rfl (fun _ => ?_); simp only [hlb]) | (refine qEf ?_; try intro _)) <;> ((try simp only [List.cons_append, List.nil_append, List.append_eq]); refine tl_nil ?_; refine rNext ?_)))
  all_goals (refine rStep (i := 6) ?_; ((try refine qWant ?_); (first | (refine tl_app (ys := [u8c (UInt8.ofNat r.note.length)]) (m := 1) rfl rfl hown3 (hR := by infer_instance) SrcV.lit rfl rfl (by decide) rfl (by omega) (by omega) rfl (fun v4 sp4 hown4 => ?_)) | (refine tl_app_str (l := r.note) rfl rfl hown4 (hR := by infer_instance) (by omega) rfl (fun v5 sp5 hown5 => ?_)) | (refine qEf ?_; try intro _)) <;> ((try simp only [List.cons_append, List.nil_append, List.append_eq]); refine tl_nil ?_; refine rNext ?_)))
  all_goals (refine rStep (i := 9) ?_; ((try refine qWant ?_); (first | (refine tl_app (ys := [u8c (UInt8.ofNat r.note.length)]) (m := 1) rfl rfl hown3 (hR := by infer_instance) SrcV.lit rfl rfl (by decide) rfl (by omega) (by omega) rfl (fun v4 sp4 hown4 => ?_)) | (refine tl_app_str (l := r.note) rfl rfl hown4 (hR := by infer_instance) (by omega) rfl (fun v5 sp5 hown5 => ?_)) | (refine qEf ?_; try intro _)) <;> ((try simp only [List.cons_append, List.nil_append, List.append_eq]); refine tl_nil ?_; refine rNext ?_)))
  all_goals refine rFull ?_
  all_goals refine rAs 10 ?_
  all_goals refine rDone ?_
  have e : (l ++ keyB r.t r.id ++ be 8 (vN r.val)).map u8c ++ [u8c (UInt8.ofNat r.note.length)] ++ r.note.map u8c = (l ++ rowB r).map u8c := by simp [rowB]
  have e2 : n + 3 + 8 + 1 + r.note.length = n + (rowB r).length := by simp [rowB, hkb, be_length]; omega
  rw [e] at hown5 ⊢
  rw [e2] at hown5
  repeat' (first | (refine i_op ?_; first | (refine i_qq ?_; refine qQ ?_) | refine qEf ?_) | refine tl_nil ?_ | (refine i_tc ?_; refine qTc ?_) | (refine i_te ?_; refine qTe ?_) | intro _)
  exact qE ⟨Hp.le_trans hle1 hle2, sp5, hown5, rfl⟩
end Go.Proofs.E

namespace Go.Proofs.E
open Go
set_option linter.unusedVariables false
set_option linter.unusedSimpArgs false
set_option linter.unusedSectionVars false
set_option maxRecDepth 4000
set_option maxHeartbeats 1000000
attribute [local irreducible] Yl TL TC TE Spec YSpec R1 Hp.le EnvLe TS TR YS Stays
def kidB (k : Kid) : List UInt8 := keyB k.t k.id ++ [tB k.page]
def cntB (c : Cont) : List UInt8 := if c.kind = 0 then [] else [UInt8.ofNat (c.rows.length + c.kids.length)]
def contB (c : Cont) : List UInt8 := tB c.kind :: cntB c ++ (c.rows.flatMap rowB ++ c.kids.flatMap kidB)
theorem risesB_true {α : Type} {most : Nat} {right : Nat → α → Bool} {lt : α → α → Bool} {l : List α} : ∀ {k : Nat}, risesB most right lt l k = true → k ≤ l.length → l.length ≤ most ∧ ∀ i (h : i < l.length), i < k → right i l[i] = true ∧ (i = 0 ∨ lt (l[i - 1]'(by omega)) l[i] = true)
  | 0, h, _ => ⟨of_decide_eq_true h, fun i _ hi => by omega⟩
  | k + 1, h, hk => by
    rw [risesB_succ (show k < l.length by omega), Bool.and_eq_true, Bool.and_eq_true] at h
    obtain ⟨h1, h2, h3⟩ := h
    obtain ⟨g1, g2⟩ := risesB_true h1 (by omega)
    refine ⟨g1, fun i hi hik => ?_⟩
    by_cases e : i < k
    · exact g2 i hi e
    · have : i = k := by omega
      subst this
      refine ⟨h2, ?_⟩
      simpa using h3
structure ContOk (c : Cont) : Prop where
  kind : c.kind = 0 ∧ c.rows = [] ∧ c.kids = [] ∨ c.kind = 1 ∧ c.kids = [] ∨ c.kind = 2 ∧ c.rows = [] ∧ 1 < c.kids.length
  rl : c.rows.length ≤ 4
  kl : c.kids.length ≤ 4
  row : ∀ r ∈ c.rows, rowOk r = true
  kid : ∀ k ∈ c.kids, (0 ≤ k.t ∧ k.t < 3) ∧ 0 < k.page ∧ k.page < 64
theorem contOk_facts {c : Cont} (h : contOk c = true) : ContOk c := by
  obtain ⟨kind, rows, kids⟩ := c
  unfold contOk at h
  dsimp only at h
  split at h
  · rename_i hk
    have hz := of_decide_eq_true h
    have h1 : rows = [] := List.eq_nil_of_length_eq_zero (by omega)
    have h2 : kids = [] := List.eq_nil_of_length_eq_zero (by omega)
    subst h1; subst h2
    exact ⟨.inl ⟨hk, rfl, rfl⟩, by simp, by simp, by simp, by simp⟩
  · split at h
    · rename_i hk
      rw [Bool.and_eq_true] at h
      have h2 : kids = [] := List.eq_nil_of_length_eq_zero (of_decide_eq_true h.1)
      subst h2
      obtain ⟨g1, g2⟩ := risesB_true h.2 (Nat.le_refl _)
      refine ⟨.inr (.inl ⟨hk, rfl⟩), g1, by simp, fun r hr => ?_, by simp⟩
      obtain ⟨i, hi, rfl⟩ := List.mem_iff_getElem.1 hr
      exact (g2 i hi hi).1
    · split at h
      · rename_i hk
        rw [Bool.and_eq_true, Bool.and_eq_true] at h
        have h1 : rows = [] := List.eq_nil_of_length_eq_zero (of_decide_eq_true h.1)
        subst h1
        obtain ⟨g1, g2⟩ := risesB_true h.2.2 (Nat.le_refl _)
        refine ⟨.inr (.inr ⟨hk, rfl, of_decide_eq_true h.2.1⟩), by simp, g1, by simp, fun k hk => ?_⟩
        obtain ⟨i, hi, rfl⟩ := List.mem_iff_getElem.1 hk
        have := of_decide_eq_true (g2 i hi hi).1
        exact ⟨this.2.2.2.1, this.2.1, this.2.2.1⟩
      · cases h
theorem rowB_len {r : Row} (h : rowOk r = true) : (rowB r).length = 12 + r.note.length := by simp [rowB, keyB, be_length]; omega
theorem rowB_le {r : Row} (h : rowOk r = true) : (rowB r).length ≤ 20 := by rw [rowB_len h]; have := (rowOk_iff h).2.2; omega
theorem kidB_len (k : Kid) : (kidB k).length = 4 := by simp [kidB, keyB, be_length]
theorem flatMap_le {α : Type} (f : α → List UInt8) (m : Nat) : ∀ (l : List α), (∀ x ∈ l, (f x).length ≤ m) → (l.flatMap f).length ≤ l.length * m
  | [], _ => by simp
  | x :: r, h => by
    have h1 := h x (by simp)
    have ih := flatMap_le f m r (fun y hy => h y (by simp [hy]))
    simp only [List.flatMap_cons, List.length_append, List.length_cons, Nat.add_mul]; omega
theorem flatMap_take_succ {α : Type} (f : α → List UInt8) (l : List α) (k : Nat) (h : k < l.length) : (l.take (k + 1)).flatMap f = (l.take k).flatMap f ++ f l[k] := by
  rw [List.take_succ_eq_append_getElem h, List.flatMap_append]; simp
theorem contE_spec (ρ : Hp) (w : CV) (c : Cont) (h : CIn ρ w c.rows c.kids) (hir : ∀ r ∈ c.rows, r.id < 65536) (hik : ∀ k ∈ c.kids, k.id < 65536) :
    Spec Try.prog 103 [.agg ⟨contV c.kind w⟩] ρ [] (fun v ρ' L' => ρ.le ρ' ∧ ∃ a n c', v = .tuple ⟨[.slice a n c', .int .i64 (if contOk c then 0 else 160)]⟩ ∧ n ≤ c' ∧ SIn ρ' u8c a n (if contOk c then contB c else []) ∧ L' = []) := by
  have hck := fun ρ h => check_spec ρ w c h
  refine spec_enter Try.func103 rfl rfl rfl fun u R => ?_
  simp only [argsE, List.cons_append, List.nil_append]
  cases hok : contOk c
  · simp only [hok, Bool.false_eq_true, if_false] at hck ⊢
    repeat' (first | (refine tl_is (.func 38) ?_; refine qC rfl rfl (hck _ h) ?_; rintro v ρ' L' hle ⟨rfl, rfl, rfl⟩ <;> (try simp only [List.cons_append, List.nil_append, List.append_eq])) | (refine i_op ?_; first | (refine i_qq ?_; refine qQ ?_) | refine qEf ?_) | refine tl_nil ?_ | (refine i_tc ?_; refine qTc ?_) | (refine i_te ?_; refine qTe ?_) | intro _)
    exact qE ⟨Hp.le_refl _, none, 0, 0, rfl, Nat.le_refl _, SIn.nil, rfl⟩
  · simp only [hok, if_true] at hck ⊢
    obtain ⟨hkind, hrl, hkl, hrow, hkid⟩ := contOk_facts hok
    have hk03 : 0 ≤ c.kind ∧ c.kind < 3 := by omega
    obtain ⟨kind, rows, kids⟩ := c
    obtain ⟨ra, rn, rc, ka, kn, kc⟩ := w
    obtain ⟨hr, hk, hrb, hkb, hrc, hkc⟩ := h
    dsimp only at hrc hkc hr hk hrb hkb hrow hkid hrl hkl hk03 hir hik ⊢
    have hrn := hr.len
    have hkn := hk.len
    have hcnt := lenB (n := rn + kn) (by omega)
    have hkB := tB_eq (t := kind) (by omega) (by omega)
    dsimp only [contV] at hck ⊢
    by_cases hk0 : kind = 0
    · obtain ⟨B0, hB0⟩ : ∃ B0, tB kind :: cntB ⟨kind, rows, kids⟩ = B0 := ⟨_, rfl⟩
      have hX : B0 = [tB kind] := by rw [← hB0]; simp [cntB, hk0]
      have hBl : B0.length ≤ 2 := by rw [hX]; simp
      repeat' (first | (refine tl_is (.func 38) ?_; refine qC rfl rfl (hck _ ⟨hr, hk, hrb, hkb, hrc, hkc⟩) ?_; rintro v ρ' L' hle ⟨rfl, rfl, rfl⟩ <;> (try simp only [List.cons_append, List.nil_append, List.append_eq])) | (refine tl_buildSlice_s rfl rfl rfl rfl (by simp) rfl rfl (fun _ => ?_); simp only [hkB]) | (refine i_op ?_; first | (refine i_qq ?_; refine qQ ?_) | refine qEf ?_) | refine tl_nil ?_ | (refine i_tc ?_; refine qTc ?_) | (refine i_te ?_; refine qTe ?_) | intro _)
      rename_i b1 b2
      rw [show [u8c (tB kind)] = B0.map u8c by rw [hX]; rfl, own_chunk b2 1 1]
      have hown0 : OwnS (.slice (some ⟨b2, 0, none⟩) 1 1) B0.length (B0.map u8c) [] 1 := ⟨.inr ⟨b2, 1, by rw [hX]; rfl, by simp, by simp [hX], by simp [hX]⟩⟩
      generalize Value.slice (some ⟨b2, 0, none⟩) 1 1 = v0 at *
      rw [show B0.map u8c = (B0 ++ (rows.take 0).flatMap rowB).map u8c by simp]
      refine tc_loop_g [(1, _), (2, _), (3, _), (34, _), (35, _)] (fun (ζ : (Nat) × (Hp) × (Value) × (List Value)) => [(36, .int .i64 ζ.1), (5, ζ.2.2.1)]) (fun (ζ : (Nat) × (Hp) × (Value) × (List Value)) => ζ.2.1) (fun (ζ : (Nat) × (Hp) × (Value) × (List Value)) => [ownC ζ.2.2.1 ((B0 ++ (rows.take ζ.1).flatMap rowB).map u8c) ζ.2.2.2 5, [(b1, .cells ⟨[.int .i64 kind, .slice ra rn rc, .slice ka kn kc]⟩ 76 (0, 0))]]) (fun (ζ : (Nat) × (Hp) × (Value) × (List Value)) => ζ.1 ≤ rn ∧ ρ'.le ζ.2.1 ∧ OwnS ζ.2.2.1 (B0 ++ (rows.take ζ.1).flatMap rowB).length ((B0 ++ (rows.take ζ.1).flatMap rowB).map u8c) ζ.2.2.2 1) (fun (ζ : (Nat) × (Hp) × (Value) × (List Value)) => rn - ζ.1) ((0, ρ', v0, [])) (⟨Nat.zero_le _, Hp.le_refl _, by simpa using hown0⟩) ev_le ev_le rfl tk ?_
      rintro ⟨k, ρ1, v, sp⟩ hI
      try simp only [List.cons_append, List.nil_append, List.append_assoc, List.append_eq] at hI ⊢
      try dsimp only at hI ⊢
      obtain ⟨hkn0, hle1, hown⟩ := hI
      by_cases hlt : k < rn
      · obtain ⟨b, off, C, T, fr, rfl, hb, hfit, hc⟩ := (hr.mono hle1).get (show k < rows.length by omega)
        have hmem : rows[k]'(by omega) ∈ rows := List.getElem_mem _
        have hro := hrow _ hmem
        have hid := hir _ hmem
        have hts := flatMap_take_succ rowB rows k (by omega)
        have hfl := flatMap_le rowB 20 (rows.take k) (fun x hx => rowB_le (hrow x (List.mem_of_mem_take hx)))
        have htl : (rows.take k).length ≤ 4 := by simp; omega
        have hXl : (B0 ++ (rows.take k).flatMap rowB).length ≤ 100 := by simp only [List.length_append]; omega
        have hll : (B0 ++ (rows.take k).flatMap rowB).length + (rowB (rows[k]'(by omega))).length = (B0 ++ (rows.take (k + 1)).flatMap rowB).length := by rw [hts]; simp; omega
        have hmm : B0 ++ (rows.take k).flatMap rowB ++ rowB (rows[k]'(by omega)) = B0 ++ (rows.take (k + 1)).flatMap rowB := by rw [hts]; simp
        generalize rows[k]'(by omega) = x at *
        repeat' (first | (refine tl_is (.func 134) ?_; refine qC rfl rfl (claid_spec _ v _ _ sp hown (by omega) x hro hid) ?_; rintro v2 ρ2 L2 hle0 ⟨hle2, sp2, hown2, rfl⟩; simp only [List.cons_append, List.nil_append, hmm]; rw [hmm, hll] at hown2) | (refine i_op ?_; first | (refine i_qq ?_; refine qQ ?_) | refine qEf ?_) | refine tl_nil ?_ | (refine i_tc ?_; refine qTc ?_) | (refine i_te ?_; refine qTe ?_) | intro _)
        refine te_round_g (k + 1, _, v2, sp2) (⟨hlt, Hp.le_trans hle1 hle2, hown2⟩) ev_le ev_le rfl tk inferInstance (by first | omega | (dsimp only; omega))
      · have hk2 : k = rn := by omega
        subst hk2
        rw [List.take_of_length_le (by omega)] at hown ⊢
        repeat' (first | (refine i_op ?_; first | (refine i_qq ?_; refine qQ ?_) | refine qEf ?_) | refine tl_nil ?_ | (refine i_tc ?_; refine qTc ?_) | (refine i_te ?_; refine qTe ?_) | intro _)
        rw [show (B0 ++ rows.flatMap rowB).map u8c = (B0 ++ (rows.flatMap rowB ++ (kids.take 0).flatMap kidB)).map u8c by simp]
        refine tc_loop_g [(2, _), (3, _), (45, _), (46, _)] (fun (ζ : (Nat) × (Hp) × (Value) × (List Value)) => [(47, .int .i64 ζ.1), (5, ζ.2.2.1)]) (fun (ζ : (Nat) × (Hp) × (Value) × (List Value)) => ζ.2.1) (fun (ζ : (Nat) × (Hp) × (Value) × (List Value)) => [ownC ζ.2.2.1 ((B0 ++ (rows.flatMap rowB ++ (kids.take ζ.1).flatMap kidB)).map u8c) ζ.2.2.2 5]) (fun (ζ : (Nat) × (Hp) × (Value) × (List Value)) => ζ.1 ≤ kn ∧ ρ1.le ζ.2.1 ∧ OwnS ζ.2.2.1 (B0 ++ (rows.flatMap rowB ++ (kids.take ζ.1).flatMap kidB)).length ((B0 ++ (rows.flatMap rowB ++ (kids.take ζ.1).flatMap kidB)).map u8c) ζ.2.2.2 1) (fun (ζ : (Nat) × (Hp) × (Value) × (List Value)) => kn - ζ.1) ((0, ρ1, v, sp)) (⟨Nat.zero_le _, Hp.le_refl _, by simpa using hown⟩) ev_le ev_le rfl tk ?_
        rintro ⟨j, ρ2, v, sp⟩ hI
        try simp only [List.cons_append, List.nil_append, List.append_assoc, List.append_eq] at hI ⊢
        try dsimp only at hI ⊢
        have hfl := flatMap_le rowB 20 rows (fun x hx => rowB_le (hrow x hx))
        obtain ⟨hj0, hle3, hown3⟩ := hI
        by_cases hlj : j < kn
        · obtain ⟨b, off, C, T, fr, rfl, hb, hfit, hc⟩ := (hk.mono (Hp.le_trans hle1 hle3)).get (show j < kids.length by omega)
          have hmem : kids[j]'(by omega) ∈ kids := List.getElem_mem _
          have hko := hkid _ hmem
          have hid := hik _ hmem
          have hts := flatMap_take_succ kidB kids j (by omega)
          have hfk := flatMap_le kidB 4 (kids.take j) (fun x hx => Nat.le_of_eq (kidB_len x))
          have htl : (kids.take j).length ≤ 4 := by simp; omega
          have hXl : (B0 ++ (rows.flatMap rowB ++ (kids.take j).flatMap kidB)).length ≤ 200 := by simp only [List.length_append]; omega
          have hmm : B0 ++ (rows.flatMap rowB ++ (kids.take j).flatMap kidB) ++ keyB (kids[j]'(by omega)).t (kids[j]'(by omega)).id ++ [tB (kids[j]'(by omega)).page] = B0 ++ (rows.flatMap rowB ++ (kids.take (j + 1)).flatMap kidB) := by rw [hts]; simp [kidB]
          have hll : (B0 ++ (rows.flatMap rowB ++ (kids.take j).flatMap kidB)).length + 3 + 1 = (B0 ++ (rows.flatMap rowB ++ (kids.take (j + 1)).flatMap kidB)).length := by rw [hts]; simp [kidB_len]; omega
          have hpg := tB_eq (t := (kids[j]'(by omega)).page) (by omega) (by omega)
          generalize kids[j]'(by omega) = x at *
          generalize hX : B0 ++ (rows.flatMap rowB ++ (kids.take j).flatMap kidB) = X at *
          repeat' (first | (refine i_op ?_; first | (refine i_qq ?_; refine qQ ?_) | refine qEf ?_) | refine tl_nil ?_ | (refine i_tc ?_; refine qTc ?_) | (refine i_te ?_; refine qTe ?_) | intro _)
          rename_i b9
          refine tc_any (Stays _ _ ([[(b9, .cells ⟨kidV x⟩ 174 (0, 0))]])) (stays_of (hT := tk) (Hp.le_refl _)) ?_
          all_goals refine rMv 0 ?_
          all_goals refine rFa 1 ?_
          all_goals refine rLd 2 ?_
          all_goals refine rFa 4 ?_
          all_goals refine rLd 5 ?_
          all_goals refine rCv 6 ?_
          all_goals (refine rStep2 (i := 3) (j := 7) ?_ ?_ <;> ((try refine qWant ?_); (first | (refine tl_is (.func 135) ?_; refine qC rfl rfl (key_spec _ v _ X sp hown3 (by omega) x.t x.id hko.1.1 (by omega) hid) ?_; rintro v2 ρ4 L2 hle0 ⟨hle4, sp4, hown4, rfl⟩; simp only [List.cons_append, List.nil_append]) | (refine tl_buildSlice_s rfl rfl rfl rfl (by simp) rfl rfl (fun _ => ?_); simp only [hpg]) | (refine qEf ?_; try intro _)) <;> ((try simp only [List.cons_append, List.nil_append, List.append_eq]); refine tl_nil ?_; refine rNext ?_)))
          all_goals (first | (refine rStep (i := 7) ?_; ((try refine qWant ?_); (first | (refine tl_buildSlice_s rfl rfl rfl rfl (by simp) rfl rfl (fun _ => ?_); simp only [hpg]) | (refine qEf ?_; try intro _)) <;> ((try simp only [List.cons_append, List.nil_append, List.append_eq]); refine tl_nil ?_; refine rNext ?_))) | (refine rStep (i := 3) ?_; ((try refine qWant ?_); (first | (refine tl_is (.func 135) ?_; refine qC rfl rfl (key_spec _ v _ X sp hown3 (by omega) x.t x.id hko.1.1 (by omega) hid) ?_; rintro v2 ρ4 L2 hle0 ⟨hle4, sp4, hown4, rfl⟩; simp only [List.cons_append, List.nil_append]) | (refine qEf ?_; try intro _)) <;> ((try simp only [List.cons_append, List.nil_append, List.append_eq]); refine tl_nil ?_; refine rNext ?_))))
          all_goals (refine rStep (i := 8) ?_; ((try refine qWant ?_); (first | (refine tl_is (.func 135) ?_; refine qC rfl rfl (key_spec _ v _ X sp hown3 (by omega) x.t x.id hko.1.1 (by omega) hid) ?_; rintro v2 ρ4 L2 hle0 ⟨hle4, sp4, hown4, rfl⟩; simp only [List.cons_append, List.nil_append]) | (refine tl_app (ys := [u8c (tB x.page)]) (m := 1) rfl rfl hown4 (hR := by infer_instance) SrcV.lit rfl rfl (by decide) rfl (by omega) (by omega) rfl (fun v5 sp5 hown5 => ?_); rw [show (X ++ keyB x.t x.id).map u8c ++ [u8c (tB x.page)] = (X ++ keyB x.t x.id ++ [tB x.page]).map u8c by simp, hmm] at hown5 ⊢; rw [hll] at hown5) | (refine qEf ?_; try intro _)) <;> ((try simp only [List.cons_append, List.nil_append, List.append_eq]); refine tl_nil ?_; refine rNext ?_)))
          all_goals refine rFull ?_
          all_goals refine rAs 9 ?_
          all_goals refine rDone ?_
          all_goals (repeat' (first | (refine i_op ?_; first | (refine i_qq ?_; refine qQ ?_) | refine qEf ?_) | refine tl_nil ?_ | (refine i_tc ?_; refine qTc ?_) | (refine i_te ?_; refine qTe ?_) | intro _))
          all_goals refine te_round_g (j + 1, _, v5, sp5) (⟨hlj, Hp.le_trans hle3 (by assumption), hown5⟩) ev_le ev_le rfl tk inferInstance (by first | omega | (dsimp only; omega))
        · have hj2 : j = kn := by omega
          subst hj2
          rw [List.take_of_length_le (by omega)] at hown3 ⊢
          have hfin : B0 ++ (rows.flatMap rowB ++ kids.flatMap kidB) = contB ⟨kind, rows, kids⟩ := by rw [← hB0]; simp [contB]
          rw [hfin] at hown3 ⊢
          repeat' (first | (refine i_op ?_; first | (refine i_qq ?_; refine qQ ?_) | refine qEf ?_) | refine tl_nil ?_ | (refine i_tc ?_; refine qTc ?_) | (refine i_te ?_; refine qTe ?_) | intro _)
          refine te_freeze _ (h := Rem.here) (fun ρ6 hle6 hfz => ?_)
          obtain ⟨a6, c6, rfl, hc6, hs6⟩ := hown3.sIn hfz
          exact qE ⟨Hp.le_trans hle1 (Hp.le_trans hle3 hle6), a6, _, c6, rfl, hc6, hs6, rfl⟩
    · obtain ⟨B0, hB0⟩ : ∃ B0, tB kind :: cntB ⟨kind, rows, kids⟩ = B0 := ⟨_, rfl⟩
      have hX : B0 = [tB kind] ++ [UInt8.ofNat (rn + kn)] := by rw [← hB0]; simp [cntB, hk0, hrn, hkn]
      have hBl : B0.length ≤ 2 := by rw [hX]; simp
      have hcnt' : Value.int .u8 ((rn : Int) + (kn : Int)) = u8c (UInt8.ofNat (rn + kn)) := by rw [← hcnt]; simp
      repeat' (first | (refine tl_is (.func 38) ?_; refine qC rfl rfl (hck _ ⟨hr, hk, hrb, hkb, hrc, hkc⟩) ?_; rintro v ρ' L' hle ⟨rfl, rfl, rfl⟩ <;> (try simp only [List.cons_append, List.nil_append, List.append_eq])) | (refine tl_buildSlice_s rfl rfl rfl rfl (by simp) rfl rfl (fun _ => ?_); first | simp only [hkB] | simp only [hcnt']) | (refine i_op ?_; first | (refine i_qq ?_; refine qQ ?_) | refine qEf ?_) | refine tl_nil ?_ | (refine i_tc ?_; refine qTc ?_) | (refine i_te ?_; refine qTe ?_) | intro _)
      rename_i b1 b2 b3
      rw [show ([(b2, Obj.cells ⟨[u8c (tB kind)]⟩ 5 (0, 0))] : List (Nat × Obj)) = ownC (.slice (some ⟨b2, 0, none⟩) 1 1) ([tB kind].map u8c) [] 5 from rfl]
      refine tl_app (ys := [u8c (UInt8.ofNat (rn + kn))]) (m := 1) (n := 1) (xs := [tB kind].map u8c) (sp := []) rfl rfl ⟨.inr ⟨b2, 1, rfl, rfl, rfl, Nat.le_refl _⟩⟩ (hR := by infer_instance) SrcV.lit rfl rfl (by decide) rfl (by omega) (by omega) rfl (fun v0 sp0 hown0 => ?_)
      rw [show [tB kind].map u8c ++ [u8c (UInt8.ofNat (rn + kn))] = B0.map u8c by rw [hX]; rfl] at hown0 ⊢
      replace hown0 : OwnS v0 B0.length (B0.map u8c) sp0 1 := by
        have e : B0.length = 1 + 1 := by rw [hX]; rfl
        rw [e]; exact hown0
      repeat' (first | (refine i_op ?_; first | (refine i_qq ?_; refine qQ ?_) | refine qEf ?_) | refine tl_nil ?_ | (refine i_tc ?_; refine qTc ?_) | (refine i_te ?_; refine qTe ?_) | intro _)
      rw [show B0.map u8c = (B0 ++ (rows.take 0).flatMap rowB).map u8c by simp]
      refine tc_loop_g [(1, _), (2, _), (3, _), (34, _), (35, _)] (fun (ζ : (Nat) × (Hp) × (Value) × (List Value)) => [(36, .int .i64 ζ.1), (5, ζ.2.2.1)]) (fun (ζ : (Nat) × (Hp) × (Value) × (List Value)) => ζ.2.1) (fun (ζ : (Nat) × (Hp) × (Value) × (List Value)) => [ownC ζ.2.2.1 ((B0 ++ (rows.take ζ.1).flatMap rowB).map u8c) ζ.2.2.2 5, [(b1, .cells ⟨[.int .i64 kind, .slice ra rn rc, .slice ka kn kc]⟩ 76 (0, 0))]]) (fun (ζ : (Nat) × (Hp) × (Value) × (List Value)) => ζ.1 ≤ rn ∧ ρ'.le ζ.2.1 ∧ OwnS ζ.2.2.1 (B0 ++ (rows.take ζ.1).flatMap rowB).length ((B0 ++ (rows.take ζ.1).flatMap rowB).map u8c) ζ.2.2.2 1) (fun (ζ : (Nat) × (Hp) × (Value) × (List Value)) => rn - ζ.1) ((0, ρ', v0, sp0)) (⟨Nat.zero_le _, Hp.le_refl _, by simpa using hown0⟩) ev_le ev_le rfl tk ?_
      rintro ⟨k, ρ1, v, sp⟩ hI
      try simp only [List.cons_append, List.nil_append, List.append_assoc, List.append_eq] at hI ⊢
      try dsimp only at hI ⊢
      obtain ⟨hkn0, hle1, hown⟩ := hI
      by_cases hlt : k < rn
      · obtain ⟨b, off, C, T, fr, rfl, hb, hfit, hc⟩ := (hr.mono hle1).get (show k < rows.length by omega)
        have hmem : rows[k]'(by omega) ∈ rows := List.getElem_mem _
        have hro := hrow _ hmem
        have hid := hir _ hmem
        have hts := flatMap_take_succ rowB rows k (by omega)
        have hfl := flatMap_le rowB 20 (rows.take k) (fun x hx => rowB_le (hrow x (List.mem_of_mem_take hx)))
        have htl : (rows.take k).length ≤ 4 := by simp; omega
        have hXl : (B0 ++ (rows.take k).flatMap rowB).length ≤ 100 := by simp only [List.length_append]; omega
        have hll : (B0 ++ (rows.take k).flatMap rowB).length + (rowB (rows[k]'(by omega))).length = (B0 ++ (rows.take (k + 1)).flatMap rowB).length := by rw [hts]; simp; omega
        have hmm : B0 ++ (rows.take k).flatMap rowB ++ rowB (rows[k]'(by omega)) = B0 ++ (rows.take (k + 1)).flatMap rowB := by rw [hts]; simp
        generalize rows[k]'(by omega) = x at *
        repeat' (first | (refine tl_is (.func 134) ?_; refine qC rfl rfl (claid_spec _ v _ _ sp hown (by omega) x hro hid) ?_; rintro v2 ρ2 L2 hle0 ⟨hle2, sp2, hown2, rfl⟩; simp only [List.cons_append, List.nil_append, hmm]; rw [hmm, hll] at hown2) | (refine i_op ?_; first | (refine i_qq ?_; refine qQ ?_) | refine qEf ?_) | refine tl_nil ?_ | (refine i_tc ?_; refine qTc ?_) | (refine i_te ?_; refine qTe ?_) | intro _)
        refine te_round_g (k + 1, _, v2, sp2) (⟨hlt, Hp.le_trans hle1 hle2, hown2⟩) ev_le ev_le rfl tk inferInstance (by first | omega | (dsimp only; omega))
      · have hk2 : k = rn := by omega
        subst hk2
        rw [List.take_of_length_le (by omega)] at hown ⊢
        repeat' (first | (refine i_op ?_; first | (refine i_qq ?_; refine qQ ?_) | refine qEf ?_) | refine tl_nil ?_ | (refine i_tc ?_; refine qTc ?_) | (refine i_te ?_; refine qTe ?_) | intro _)
        rw [show (B0 ++ rows.flatMap rowB).map u8c = (B0 ++ (rows.flatMap rowB ++ (kids.take 0).flatMap kidB)).map u8c by simp]
        refine tc_loop_g [(2, _), (3, _), (45, _), (46, _)] (fun (ζ : (Nat) × (Hp) × (Value) × (List Value)) => [(47, .int .i64 ζ.1), (5, ζ.2.2.1)]) (fun (ζ : (Nat) × (Hp) × (Value) × (List Value)) => ζ.2.1) (fun (ζ : (Nat) × (Hp) × (Value) × (List Value)) => [ownC ζ.2.2.1 ((B0 ++ (rows.flatMap rowB ++ (kids.take ζ.1).flatMap kidB)).map u8c) ζ.2.2.2 5]) (fun (ζ : (Nat) × (Hp) × (Value) × (List Value)) => ζ.1 ≤ kn ∧ ρ1.le ζ.2.1 ∧ OwnS ζ.2.2.1 (B0 ++ (rows.flatMap rowB ++ (kids.take ζ.1).flatMap kidB)).length ((B0 ++ (rows.flatMap rowB ++ (kids.take ζ.1).flatMap kidB)).map u8c) ζ.2.2.2 1) (fun (ζ : (Nat) × (Hp) × (Value) × (List Value)) => kn - ζ.1) ((0, ρ1, v, sp)) (⟨Nat.zero_le _, Hp.le_refl _, by simpa using hown⟩) ev_le ev_le rfl tk ?_
        rintro ⟨j, ρ2, v, sp⟩ hI
        try simp only [List.cons_append, List.nil_append, List.append_assoc, List.append_eq] at hI ⊢
        try dsimp only at hI ⊢
        have hfl := flatMap_le rowB 20 rows (fun x hx => rowB_le (hrow x hx))
        obtain ⟨hj0, hle3, hown3⟩ := hI
        by_cases hlj : j < kn
        · obtain ⟨b, off, C, T, fr, rfl, hb, hfit, hc⟩ := (hk.mono (Hp.le_trans hle1 hle3)).get (show j < kids.length by omega)
          have hmem : kids[j]'(by omega) ∈ kids := List.getElem_mem _
          have hko := hkid _ hmem
          have hid := hik _ hmem
          have hts := flatMap_take_succ kidB kids j (by omega)
          have hfk := flatMap_le kidB 4 (kids.take j) (fun x hx => Nat.le_of_eq (kidB_len x))
          have htl : (kids.take j).length ≤ 4 := by simp; omega
          have hXl : (B0 ++ (rows.flatMap rowB ++ (kids.take j).flatMap kidB)).length ≤ 200 := by simp only [List.length_append]; omega
          have hmm : B0 ++ (rows.flatMap rowB ++ (kids.take j).flatMap kidB) ++ keyB (kids[j]'(by omega)).t (kids[j]'(by omega)).id ++ [tB (kids[j]'(by omega)).page] = B0 ++ (rows.flatMap rowB ++ (kids.take (j + 1)).flatMap kidB) := by rw [hts]; simp [kidB]
          have hll : (B0 ++ (rows.flatMap rowB ++ (kids.take j).flatMap kidB)).length + 3 + 1 = (B0 ++ (rows.flatMap rowB ++ (kids.take (j + 1)).flatMap kidB)).length := by rw [hts]; simp [kidB_len]; omega
          have hpg := tB_eq (t := (kids[j]'(by omega)).page) (by omega) (by omega)
          generalize kids[j]'(by omega) = x at *
          generalize hX : B0 ++ (rows.flatMap rowB ++ (kids.take j).flatMap kidB) = X at *
          repeat' (first | (refine i_op ?_; first | (refine i_qq ?_; refine qQ ?_) | refine qEf ?_) | refine tl_nil ?_ | (refine i_tc ?_; refine qTc ?_) | (refine i_te ?_; refine qTe ?_) | intro _)
          rename_i b9
          refine tc_any (Stays _ _ ([[(b9, .cells ⟨kidV x⟩ 174 (0, 0))]])) (stays_of (hT := tk) (Hp.le_refl _)) ?_
          all_goals refine rMv 0 ?_
          all_goals refine rFa 1 ?_
          all_goals refine rLd 2 ?_
          all_goals refine rFa 4 ?_
          all_goals refine rLd 5 ?_
          all_goals refine rCv 6 ?_
          all_goals (refine rStep2 (i := 3) (j := 7) ?_ ?_ <;> ((try refine qWant ?_); (first | (refine tl_is (.func 135) ?_; refine qC rfl rfl (key_spec _ v _ X sp hown3 (by omega) x.t x.id hko.1.1 (by omega) hid) ?_; rintro v2 ρ4 L2 hle0 ⟨hle4, sp4, hown4, rfl⟩; simp only [List.cons_append, List.nil_append]) | (refine tl_buildSlice_s rfl rfl rfl rfl (by simp) rfl rfl (fun _ => ?_); simp only [hpg]) | (refine qEf ?_; try intro _)) <;> ((try simp only [List.cons_append, List.nil_append, List.append_eq]); refine tl_nil ?_; refine rNext ?_)))
          all_goals (first | (refine rStep (i := 7) ?_; ((try refine qWant ?_); (first | (refine tl_buildSlice_s rfl rfl rfl rfl (by simp) rfl rfl (fun _ => ?_); simp only [hpg]) | (refine qEf ?_; try intro _)) <;> ((try simp only [List.cons_append, List.nil_append, List.append_eq]); refine tl_nil ?_; refine rNext ?_))) | (refine rStep (i := 3) ?_; ((try refine qWant ?_); (first | (refine tl_is (.func 135) ?_; refine qC rfl rfl (key_spec _ v _ X sp hown3 (by omega) x.t x.id hko.1.1 (by omega) hid) ?_; rintro v2 ρ4 L2 hle0 ⟨hle4, sp4, hown4, rfl⟩; simp only [List.cons_append, List.nil_append]) | (refine qEf ?_; try intro _)) <;> ((try simp only [List.cons_append, List.nil_append, List.append_eq]); refine tl_nil ?_; refine rNext ?_))))
          all_goals (refine rStep (i := 8) ?_; ((try refine qWant ?_); (first | (refine tl_is (.func 135) ?_; refine qC rfl rfl (key_spec _ v _ X sp hown3 (by omega) x.t x.id hko.1.1 (by omega) hid) ?_; rintro v2 ρ4 L2 hle0 ⟨hle4, sp4, hown4, rfl⟩; simp only [List.cons_append, List.nil_append]) | (refine tl_app (ys := [u8c (tB x.page)]) (m := 1) rfl rfl hown4 (hR := by infer_instance) SrcV.lit rfl rfl (by decide) rfl (by omega) (by omega) rfl (fun v5 sp5 hown5 => ?_); rw [show (X ++ keyB x.t x.id).map u8c ++ [u8c (tB x.page)] = (X ++ keyB x.t x.id ++ [tB x.page]).map u8c by simp, hmm] at hown5 ⊢; rw [hll] at hown5) | (refine qEf ?_; try intro _)) <;> ((try simp only [List.cons_append, List.nil_append, List.append_eq]); refine tl_nil ?_; refine rNext ?_)))
          all_goals refine rFull ?_
          all_goals refine rAs 9 ?_
          all_goals refine rDone ?_
          all_goals (repeat' (first | (refine i_op ?_; first | (refine i_qq ?_; refine qQ ?_) | refine qEf ?_) | refine tl_nil ?_ | (refine i_tc ?_; refine qTc ?_) | (refine i_te ?_; refine qTe ?_) | intro _))
          all_goals refine te_round_g (j + 1, _, v5, sp5) (⟨hlj, Hp.le_trans hle3 (by assumption), hown5⟩) ev_le ev_le rfl tk inferInstance (by first | omega | (dsimp only; omega))
        · have hj2 : j = kn := by omega
          subst hj2
          rw [List.take_of_length_le (by omega)] at hown3 ⊢
          have hfin : B0 ++ (rows.flatMap rowB ++ kids.flatMap kidB) = contB ⟨kind, rows, kids⟩ := by rw [← hB0]; simp [contB]
          rw [hfin] at hown3 ⊢
          repeat' (first | (refine i_op ?_; first | (refine i_qq ?_; refine qQ ?_) | refine qEf ?_) | refine tl_nil ?_ | (refine i_tc ?_; refine qTc ?_) | (refine i_te ?_; refine qTe ?_) | intro _)
          refine te_freeze _ (h := Rem.here) (fun ρ6 hle6 hfz => ?_)
          obtain ⟨a6, c6, rfl, hc6, hs6⟩ := hown3.sIn hfz
          exact qE ⟨Hp.le_trans hle1 (Hp.le_trans hle3 hle6), a6, _, c6, rfl, hc6, hs6, rfl⟩
end Go.Proofs.E

namespace Go.Proofs.E
open Go
set_option linter.unusedVariables false
set_option linter.unusedSimpArgs false
set_option linter.unusedSectionVars false
set_option maxRecDepth 4000
set_option maxHeartbeats 1000000
attribute [local irreducible] Yl TL TC TE Spec YSpec R1 Hp.le EnvLe TS TR YS Stays
/-! ## codec: which are one -/
instance : Fun Try.prog 50 := mkFun (by kernel_rfl)
instance : Fun Try.prog 42 := mkFun (by kernel_rfl)
instance (priority := 1200) eqRow {x y : Row} : EqC Try.prog 8 129 (.agg ⟨rowV x⟩) (.agg ⟨rowV y⟩) (decide (x = y)) := by
  have h : EqC Try.prog 8 129 (.agg ⟨[.int .i64 x.t, .int .u16 x.id, .int .i64 x.val, strV x.note]⟩) (.agg ⟨[.int .i64 y.t, .int .u16 y.id, .int .i64 y.val, strV y.note]⟩) _ := inferInstance
  refine ⟨fun d w hd => ?_⟩
  rw [h.out d w hd]
  congr 1
  obtain ⟨t, i, v, n⟩ := x
  obtain ⟨t', i', v', n'⟩ := y
  simp only [Row.mk.injEq, Bool.and_true, Bool.decide_and]
  have e : ((i : Int) == (i' : Int)) = decide (i = i') := by
    by_cases h : i = i'
    · subst h; simp
    · rw [decide_eq_false h]; simp only [beq_eq_false_iff_ne, ne_eq]; omega
  rw [e]
  by_cases h1 : t = t' <;> by_cases h2 : i = i' <;> by_cases h3 : v = v' <;> simp [h1, h2, h3]
instance (priority := 1200) eqKid {x y : Kid} : EqC Try.prog 8 174 (.agg ⟨kidV x⟩) (.agg ⟨kidV y⟩) (decide (x = y)) := by
  have h : EqC Try.prog 8 174 (.agg ⟨[.int .i64 x.t, .int .u16 x.id, .int .i64 x.page]⟩) (.agg ⟨[.int .i64 y.t, .int .u16 y.id, .int .i64 y.page]⟩) _ := inferInstance
  refine ⟨fun d w hd => ?_⟩
  rw [h.out d w hd]
  congr 1
  obtain ⟨t, i, v⟩ := x
  obtain ⟨t', i', v'⟩ := y
  simp only [Kid.mk.injEq, Bool.and_true, Bool.decide_and]
  have e : ((i : Int) == (i' : Int)) = decide (i = i') := by
    by_cases h : i = i'
    · subst h; simp
    · rw [decide_eq_false h]; simp only [beq_eq_false_iff_ne, ne_eq]; omega
  rw [e]
  by_cases h1 : t = t' <;> by_cases h2 : i = i' <;> by_cases h3 : v = v' <;> simp [h1, h2, h3]
theorem slEqROW_spec (ρ : Hp) (a a' : Option Addr) (n c n' c' : Nat) (l m : List Row) (h : AIn ρ 4 rowV a n l) (h' : AIn ρ 4 rowV a' n' m) (hn : n ≤ 1000000) :
    Spec Try.prog 108 [.slice a n c, .slice a' n' c'] ρ [] (fun v ρ' L' => v = .bool (decide (l = m)) ∧ ρ' = ρ ∧ L' = []) := by
  have hl := h.len
  have hm := h'.len
  refine spec_enter Try.func108 rfl rfl rfl fun u R => ?_
  simp only [argsE, List.cons_append, List.nil_append]
  by_cases hne : n = n'
  · subst hne
    repeat' (first | (refine i_op ?_; first | (refine i_qq ?_; refine qQ ?_) | refine qEf ?_) | refine tl_nil ?_ | (refine i_tc ?_; refine qTc ?_) | (refine i_te ?_; refine qTe ?_) | intro _)
    refine tc_loop_g [(0, _), (1, _), (4, _), (12, _)] (fun (ζ : (Nat)) => [(13, .int .i64 ζ)]) (fun (ζ : (Nat)) => ρ) (fun (ζ : (Nat)) => []) (fun (ζ : (Nat)) => ζ ≤ n ∧ l.take ζ = m.take ζ) (fun (ζ : (Nat)) => n - ζ) (0) (⟨Nat.zero_le _, rfl⟩) ev_le ev_le rfl tk ?_
    rintro k hI
    try simp only [List.cons_append, List.nil_append, List.append_assoc, List.append_eq] at hI ⊢
    try dsimp only at hI ⊢
    obtain ⟨hk, hpre⟩ := hI
    by_cases hlt : k < n
    · obtain ⟨b, off, C, T, fr, rfl, hb, hfit, hc⟩ := h.get (show k < l.length by omega)
      obtain ⟨b2, off2, C2, T2, fr2, rfl, hb2, hfit2, hc2⟩ := h'.get (show k < m.length by omega)
      have ht1 := List.take_succ_eq_append_getElem (show k < l.length by omega)
      have ht2 := List.take_succ_eq_append_getElem (show k < m.length by omega)
      have hf : l = m → l[k]'(by omega) = m[k]'(by omega) := fun e => by subst e; rfl
      generalize l[k]'(by omega) = x at *
      generalize m[k]'(by omega) = y at *
      by_cases he : x = y
      · have hd : decide (x = y) = true := decide_eq_true he
        repeat' (first | (refine i_op ?_; first | (refine i_qq ?_; refine qQ ?_) | refine qEf ?_) | refine tl_nil ?_ | (refine i_tc ?_; refine qTc ?_) | (refine i_te ?_; refine qTe ?_) | intro _)
        refine tc_any (Stays _ _ _) stays_refl ?_
        all_goals refine rMv 0 ?_
        all_goals refine rFull ?_
        all_goals refine rMv 1 ?_
        all_goals refine rIa 2 ?_
        all_goals refine rLd 3 ?_
        all_goals refine rMv 4 ?_
        all_goals refine rMv 5 ?_
        all_goals refine rIa 6 ?_
        all_goals refine rLd 7 ?_
        all_goals refine rCm 8 ?_
        all_goals refine rDone ?_
        try simp only [hd]
        repeat' (first | (refine i_op ?_; first | (refine i_qq ?_; refine qQ ?_) | refine qEf ?_) | refine tl_nil ?_ | (refine i_tc ?_; refine qTc ?_) | (refine i_te ?_; refine qTe ?_) | intro _)
        refine te_round_g (k + 1) (⟨hlt, by rw [ht1, ht2, hpre, he]⟩) ev_le ev_le rfl tk inferInstance (by first | omega | (dsimp only; omega))
      · have hd : decide (x = y) = false := decide_eq_false he
        rw [decide_eq_false (fun e => he (hf e))]
        repeat' (first | (refine i_op ?_; first | (refine i_qq ?_; refine qQ ?_) | refine qEf ?_) | refine tl_nil ?_ | (refine i_tc ?_; refine qTc ?_) | (refine i_te ?_; refine qTe ?_) | intro _)
        refine tc_any (Stays _ _ _) stays_refl ?_
        all_goals refine rMv 0 ?_
        all_goals refine rFull ?_
        all_goals refine rMv 1 ?_
        all_goals refine rIa 2 ?_
        all_goals refine rLd 3 ?_
        all_goals refine rMv 4 ?_
        all_goals refine rMv 5 ?_
        all_goals refine rIa 6 ?_
        all_goals refine rLd 7 ?_
        all_goals refine rCm 8 ?_
        all_goals refine rDone ?_
        try simp only [hd]
        repeat' (first | (refine i_op ?_; first | (refine i_qq ?_; refine qQ ?_) | refine qEf ?_) | refine tl_nil ?_ | (refine i_tc ?_; refine qTc ?_) | (refine i_te ?_; refine qTe ?_) | intro _)
        exact qE ⟨rfl, rfl, rfl⟩
    · have hk2 : k = n := by omega
      subst hk2
      rw [List.take_of_length_le (by omega), List.take_of_length_le (by omega)] at hpre
      rw [decide_eq_true hpre]
      repeat' (first | (refine i_op ?_; first | (refine i_qq ?_; refine qQ ?_) | refine qEf ?_) | refine tl_nil ?_ | (refine i_tc ?_; refine qTc ?_) | (refine i_te ?_; refine qTe ?_) | intro _)
      exact qE ⟨rfl, rfl, rfl⟩
  · rw [decide_eq_false (fun e : l = m => hne (by rw [← hl, ← hm, e]))]
    repeat' (first | (refine i_op ?_; first | (refine i_qq ?_; refine qQ ?_) | refine qEf ?_) | refine tl_nil ?_ | (refine i_tc ?_; refine qTc ?_) | (refine i_te ?_; refine qTe ?_) | intro _)
    exact qE ⟨rfl, rfl, rfl⟩
theorem slEqKID_spec (ρ : Hp) (a a' : Option Addr) (n c n' c' : Nat) (l m : List Kid) (h : AIn ρ 3 kidV a n l) (h' : AIn ρ 3 kidV a' n' m) (hn : n ≤ 1000000) :
    Spec Try.prog 109 [.slice a n c, .slice a' n' c'] ρ [] (fun v ρ' L' => v = .bool (decide (l = m)) ∧ ρ' = ρ ∧ L' = []) := by
  have hl := h.len
  have hm := h'.len
  refine spec_enter Try.func109 rfl rfl rfl fun u R => ?_
  simp only [argsE, List.cons_append, List.nil_append]
  by_cases hne : n = n'
  · subst hne
    repeat' (first | (refine i_op ?_; first | (refine i_qq ?_; refine qQ ?_) | refine qEf ?_) | refine tl_nil ?_ | (refine i_tc ?_; refine qTc ?_) | (refine i_te ?_; refine qTe ?_) | intro _)
    refine tc_loop_g [(0, _), (1, _), (4, _), (12, _)] (fun (ζ : (Nat)) => [(13, .int .i64 ζ)]) (fun (ζ : (Nat)) => ρ) (fun (ζ : (Nat)) => []) (fun (ζ : (Nat)) => ζ ≤ n ∧ l.take ζ = m.take ζ) (fun (ζ : (Nat)) => n - ζ) (0) (⟨Nat.zero_le _, rfl⟩) ev_le ev_le rfl tk ?_
    rintro k hI
    try simp only [List.cons_append, List.nil_append, List.append_assoc, List.append_eq] at hI ⊢
    try dsimp only at hI ⊢
    obtain ⟨hk, hpre⟩ := hI
    by_cases hlt : k < n
    · obtain ⟨b, off, C, T, fr, rfl, hb, hfit, hc⟩ := h.get (show k < l.length by omega)
      obtain ⟨b2, off2, C2, T2, fr2, rfl, hb2, hfit2, hc2⟩ := h'.get (show k < m.length by omega)
      have ht1 := List.take_succ_eq_append_getElem (show k < l.length by omega)
      have ht2 := List.take_succ_eq_append_getElem (show k < m.length by omega)
      have hf : l = m → l[k]'(by omega) = m[k]'(by omega) := fun e => by subst e; rfl
      generalize l[k]'(by omega) = x at *
      generalize m[k]'(by omega) = y at *
      by_cases he : x = y
      · have hd : decide (x = y) = true := decide_eq_true he
        repeat' (first | (refine i_op ?_; first | (refine i_qq ?_; refine qQ ?_) | refine qEf ?_) | refine tl_nil ?_ | (refine i_tc ?_; refine qTc ?_) | (refine i_te ?_; refine qTe ?_) | intro _)
        refine tc_any (Stays _ _ _) stays_refl ?_
        all_goals refine rMv 0 ?_
        all_goals refine rFull ?_
        all_goals refine rMv 1 ?_
        all_goals refine rIa 2 ?_
        all_goals refine rLd 3 ?_
        all_goals refine rMv 4 ?_
        all_goals refine rMv 5 ?_
        all_goals refine rIa 6 ?_
        all_goals refine rLd 7 ?_
        all_goals refine rCm 8 ?_
        all_goals refine rDone ?_
        try simp only [hd]
        repeat' (first | (refine i_op ?_; first | (refine i_qq ?_; refine qQ ?_) | refine qEf ?_) | refine tl_nil ?_ | (refine i_tc ?_; refine qTc ?_) | (refine i_te ?_; refine qTe ?_) | intro _)
        refine te_round_g (k + 1) (⟨hlt, by rw [ht1, ht2, hpre, he]⟩) ev_le ev_le rfl tk inferInstance (by first | omega | (dsimp only; omega))
      · have hd : decide (x = y) = false := decide_eq_false he
        rw [decide_eq_false (fun e => he (hf e))]
        repeat' (first | (refine i_op ?_; first | (refine i_qq ?_; refine qQ ?_) | refine qEf ?_) | refine tl_nil ?_ | (refine i_tc ?_; refine qTc ?_) | (refine i_te ?_; refine qTe ?_) | intro _)
        refine tc_any (Stays _ _ _) stays_refl ?_
        all_goals refine rMv 0 ?_
        all_goals refine rFull ?_
        all_goals refine rMv 1 ?_
        all_goals refine rIa 2 ?_
        all_goals refine rLd 3 ?_
        all_goals refine rMv 4 ?_
        all_goals refine rMv 5 ?_
        all_goals refine rIa 6 ?_
        all_goals refine rLd 7 ?_
        all_goals refine rCm 8 ?_
        all_goals refine rDone ?_
        try simp only [hd]
        repeat' (first | (refine i_op ?_; first | (refine i_qq ?_; refine qQ ?_) | refine qEf ?_) | refine tl_nil ?_ | (refine i_tc ?_; refine qTc ?_) | (refine i_te ?_; refine qTe ?_) | intro _)
        exact qE ⟨rfl, rfl, rfl⟩
    · have hk2 : k = n := by omega
      subst hk2
      rw [List.take_of_length_le (by omega), List.take_of_length_le (by omega)] at hpre
      rw [decide_eq_true hpre]
      repeat' (first | (refine i_op ?_; first | (refine i_qq ?_; refine qQ ?_) | refine qEf ?_) | refine tl_nil ?_ | (refine i_tc ?_; refine qTc ?_) | (refine i_te ?_; refine qTe ?_) | intro _)
      exact qE ⟨rfl, rfl, rfl⟩
  · rw [decide_eq_false (fun e : l = m => hne (by rw [← hl, ← hm, e]))]
    repeat' (first | (refine i_op ?_; first | (refine i_qq ?_; refine qQ ?_) | refine qEf ?_) | refine tl_nil ?_ | (refine i_tc ?_; refine qTc ?_) | (refine i_te ?_; refine qTe ?_) | intro _)
    exact qE ⟨rfl, rfl, rfl⟩
theorem bytesEq_spec (ρ : Hp) (a a' : Option Addr) (n c n' c' : Nat) (l m : List UInt8) (h : SIn ρ u8c a n l) (h' : SIn ρ u8c a' n' m) :
    Spec Try.prog 50 [.slice a n c, .slice a' n' c'] ρ [] (fun v ρ' L' => v = .bool (decide (l = m)) ∧ ρ' = ρ ∧ L' = []) := by
  refine spec_enter Try.func50 rfl rfl rfl fun u R => ?_
  simp only [argsE, List.cons_append, List.nil_append]
  repeat' (first | (refine i_op ?_; first | (refine i_qq ?_; refine qQ ?_) | refine qEf ?_) | refine tl_nil ?_ | (refine i_tc ?_; refine qTc ?_) | (refine i_te ?_; refine qTe ?_) | intro _)
  exact qE ⟨rfl, rfl, rfl⟩
theorem same_spec (ρ : Hp) (w w' : CV) (c d : Cont) (h : CIn ρ w c.rows c.kids) (h' : CIn ρ w' d.rows d.kids) :
    Spec Try.prog 80 [.agg ⟨contV c.kind w⟩, .agg ⟨contV d.kind w'⟩] ρ [] (fun v ρ' L' => v = .bool (decide (c = d)) ∧ ρ' = ρ ∧ L' = []) := by
  have hr := fun ρ h h' => slEqROW_spec ρ w.ra w'.ra w.rn w.rc w'.rn w'.rc c.rows d.rows h h' (CIn.rb (by assumption))
  have hk := fun ρ h h' => slEqKID_spec ρ w.ka w'.ka w.kn w.kc w'.kn w'.kc c.kids d.kids h h' (CIn.kb (by assumption))
  obtain ⟨kind, rows, kids⟩ := c
  obtain ⟨kind', rows', kids'⟩ := d
  dsimp only at hr hk h h' ⊢
  have hrr := h.r
  have hrr' := h'.r
  have hkk := h.k
  have hkk' := h'.k
  simp only [Cont.mk.injEq]
  refine spec_enter Try.func80 rfl rfl rfl fun u R => ?_
  simp only [argsE, List.cons_append, List.nil_append]
  by_cases h1 : kind = kind'
  · by_cases h2 : rows = rows'
    · rw [decide_eq_true h2] at hr
      by_cases h3 : kids = kids'
      · rw [decide_eq_true h3] at hk
        rw [decide_eq_true ⟨h1, h2, h3⟩]
        repeat' (first | (refine tl_is (.func 108) ?_; refine qC rfl rfl (hr _ hrr hrr') ?_; rintro v ρ' L' hle ⟨rfl, rfl, rfl⟩ <;> (try simp only [List.cons_append, List.nil_append, List.append_eq])) | (refine tl_is (.func 109) ?_; refine qC rfl rfl (hk _ hkk hkk') ?_; rintro v ρ' L' hle ⟨rfl, rfl, rfl⟩ <;> (try simp only [List.cons_append, List.nil_append, List.append_eq])) | (refine i_op ?_; first | (refine i_qq ?_; refine qQ ?_) | refine qEf ?_) | refine tl_nil ?_ | (refine i_tc ?_; refine qTc ?_) | (refine i_te ?_; refine qTe ?_) | intro _)
        exact qE ⟨rfl, rfl, rfl⟩
      · rw [decide_eq_false h3] at hk
        rw [decide_eq_false (fun e => h3 e.2.2)]
        repeat' (first | (refine tl_is (.func 108) ?_; refine qC rfl rfl (hr _ hrr hrr') ?_; rintro v ρ' L' hle ⟨rfl, rfl, rfl⟩ <;> (try simp only [List.cons_append, List.nil_append, List.append_eq])) | (refine tl_is (.func 109) ?_; refine qC rfl rfl (hk _ hkk hkk') ?_; rintro v ρ' L' hle ⟨rfl, rfl, rfl⟩ <;> (try simp only [List.cons_append, List.nil_append, List.append_eq])) | (refine i_op ?_; first | (refine i_qq ?_; refine qQ ?_) | refine qEf ?_) | refine tl_nil ?_ | (refine i_tc ?_; refine qTc ?_) | (refine i_te ?_; refine qTe ?_) | intro _)
        exact qE ⟨rfl, rfl, rfl⟩
    · rw [decide_eq_false h2] at hr
      rw [decide_eq_false (fun e => h2 e.2.1)]
      repeat' (first | (refine tl_is (.func 108) ?_; refine qC rfl rfl (hr _ hrr hrr') ?_; rintro v ρ' L' hle ⟨rfl, rfl, rfl⟩ <;> (try simp only [List.cons_append, List.nil_append, List.append_eq])) | (refine i_op ?_; first | (refine i_qq ?_; refine qQ ?_) | refine qEf ?_) | refine tl_nil ?_ | (refine i_tc ?_; refine qTc ?_) | (refine i_te ?_; refine qTe ?_) | intro _)
      exact qE ⟨rfl, rfl, rfl⟩
  · rw [decide_eq_false (fun e => h1 e.1)]
    repeat' (first | (refine i_op ?_; first | (refine i_qq ?_; refine qQ ?_) | refine qEf ?_) | refine tl_nil ?_ | (refine i_tc ?_; refine qTc ?_) | (refine i_te ?_; refine qTe ?_) | intro _)
    exact qE ⟨rfl, rfl, rfl⟩
end Go.Proofs.E

namespace Go.Proofs.E
open Go
set_option linter.unusedVariables false
set_option linter.unusedSimpArgs false
set_option linter.unusedSectionVars false
set_option maxRecDepth 4000
set_option maxHeartbeats 1000000
attribute [local irreducible] Yl TL TC TE Spec YSpec R1 Hp.le EnvLe TS TR YS Stays
/-! ## what is taken is what its bytes are -/
theorem numR_zero {k : Nat} {l : List UInt8} {st : Int} (h : (numR k l st).2.2 = 0) : st = 0 ∧ k ≤ l.length ∧ numR k l st = (unbe (l.take k), l.drop k, 0) := by
  unfold numR at h ⊢
  by_cases hs : st ≠ 0
  · rw [if_pos hs] at h; exact absurd h hs
  · have h0 : st = 0 := by simpa using hs
    rw [if_neg hs] at h ⊢
    by_cases hl : l.length < k
    · rw [if_pos hl] at h; simp at h
    · rw [if_neg hl]; exact ⟨h0, by omega, rfl⟩
theorem rawR_zero {k : Nat} {l : List UInt8} {st : Int} (h : (rawR k l st).2.2 = 0) : st = 0 ∧ k ≤ l.length ∧ rawR k l st = (l.take k, l.drop k, 0) := by
  unfold rawR at h ⊢
  by_cases hs : st ≠ 0
  · rw [if_pos hs] at h; exact absurd h hs
  · have h0 : st = 0 := by simpa using hs
    rw [if_neg hs] at h ⊢
    by_cases hl : l.length < k
    · rw [if_pos hl] at h; simp at h
    · rw [if_neg hl]; exact ⟨h0, by omega, rfl⟩
theorem be_take {k : Nat} {l : List UInt8} (h : k ≤ l.length) : be k (unbe (l.take k)) = l.take k := by
  have := be_unbe (l.take k)
  rwa [List.length_take, Nat.min_eq_left h] at this
theorem be_one (x : Nat) : be 1 x = [UInt8.ofNat x] := by simp [be]
theorem tB_nat (x : Nat) : tB (x : Int) = UInt8.ofNat x := rfl
theorem vN_i64N {x : Nat} (h : x < 18446744073709551616) : vN (i64N x) = x := by
  have h1 : IntKind.u64.wrap (i64N x) = x := by
    unfold i64N
    simp only [IntKind.wrap, IntKind.bits, IntKind.signed, Bool.true_and, Bool.false_and, Bool.false_eq_true, if_false]
    split <;> simp_all <;> omega
  simp [vN, h1]
theorem i64N_vN {v : Int} (h : -9223372036854775808 ≤ v ∧ v ≤ 9223372036854775807) : i64N (vN v) = v := by
  unfold i64N
  rw [← vN_eq]
  simp only [IntKind.wrap, IntKind.bits, IntKind.signed, Bool.true_and, Bool.false_and, Bool.false_eq_true, if_false]
  split <;> simp_all <;> omega
theorem needB_false {bad : Bool} {st : Int} {is : Bool} (h : needB bad st is = false) (hs : st = 0) : bad = false ∧ is = true := by
  subst hs
  cases bad <;> cases is <;> simp_all [needB]
structure RowFit (r : Row) : Prop where
  id : r.id < 65536
  val : -9223372036854775808 ≤ r.val ∧ r.val ≤ 9223372036854775807
theorem i64N_fit (x : Nat) : -9223372036854775808 ≤ i64N x ∧ i64N x ≤ 9223372036854775807 := by
  unfold i64N
  simp only [IntKind.wrap, IntKind.bits, IntKind.signed, Bool.true_and]
  split <;> simp_all <;> omega
theorem rowR_ok {l l' : List UInt8} {st : Int} {bad : Bool} {r : Row} (h : rowR l st bad = (r, l', 0, false)) : st = 0 ∧ bad = false ∧ rowOk r = true ∧ l = rowB r ++ l' ∧ RowFit r := by
  unfold rowR at h
  dsimp only at h
  split at h
  · rename_i hok
    rw [Bool.and_eq_true, Bool.not_eq_true'] at hok
    obtain ⟨hb1, hs1⟩ := hok
    have hs1 := of_decide_eq_true hs1
    obtain ⟨rfl, hl1, e1⟩ := numR_zero hs1
    obtain ⟨rfl, ht⟩ := needB_false hb1 hs1
    split at h
    · rename_i hok2
      rw [Bool.and_eq_true, Bool.not_eq_true'] at hok2
      obtain ⟨hb2, hs4⟩ := hok2
      have hs4 := of_decide_eq_true hs4
      obtain ⟨hs3, hl4, e4⟩ := numR_zero hs4
      obtain ⟨hs2, hl3, e3⟩ := numR_zero hs3
      obtain ⟨hs1', hl2, e2⟩ := numR_zero hs2
      obtain ⟨_, hn⟩ := needB_false hb2 hs4
      have ht := of_decide_eq_true ht
      have hn := of_decide_eq_true hn
      simp only [Prod.mk.injEq] at h
      obtain ⟨h1, h2, h3, h4⟩ := h
      obtain ⟨_, hl5, e5⟩ := rawR_zero h3
      subst h1; subst h2
      rw [e5]
      simp only [e4] at hl5 hn e5 ⊢
      simp only [e3] at hl4 hl5 hn e5 ⊢
      simp only [e2] at hl3 hl4 hl5 hn e5 ⊢
      simp only [e1] at hl2 hl3 hl4 hl5 hn ht e5 ⊢
      have b1 := be_take hl1
      have b2 := be_take hl2
      have b3 := be_take hl3
      have b4 := be_take hl4
      rw [be_one] at b1 b4
      have u2 := unbe_lt ((l.drop 1).take 2)
      have u3 := unbe_lt (((l.drop 1).drop 2).take 8)
      rw [List.length_take, Nat.min_eq_left hl2] at u2
      rw [List.length_take, Nat.min_eq_left hl3] at u3
      have hlen : (List.take (unbe (List.take 1 (List.drop 8 (List.drop 2 (List.drop 1 l))))) (List.drop 1 (List.drop 8 (List.drop 2 (List.drop 1 l))))).length = unbe (List.take 1 (List.drop 8 (List.drop 2 (List.drop 1 l)))) := by rw [List.length_take, Nat.min_eq_left hl5]
      refine ⟨by trivial, by trivial, ?_, ?_, ⟨by dsimp only; omega, i64N_fit _⟩⟩
      · unfold rowOk
        dsimp only
        rw [hlen]
        exact decide_eq_true ⟨⟨by omega, by omega⟩, by omega⟩
      · unfold rowB keyB
        dsimp only
        rw [hlen, vN_i64N (by omega), b3, b2, tB_nat]
        have c1 : UInt8.ofNat (unbe (List.take 1 l)) :: (List.take 2 (List.drop 1 l)) = List.take 1 l ++ List.take 2 (List.drop 1 l) := by
          show [UInt8.ofNat (unbe (List.take 1 l))] ++ _ = _
          rw [b1]
        rw [c1]
        have c4 : ∀ X : List UInt8, UInt8.ofNat (unbe (List.take 1 (List.drop 8 (List.drop 2 (List.drop 1 l))))) :: X = List.take 1 (List.drop 8 (List.drop 2 (List.drop 1 l))) ++ X := fun X => by
          show [UInt8.ofNat (unbe (List.take 1 (List.drop 8 (List.drop 2 (List.drop 1 l)))))] ++ X = _
          rw [b4]
        rw [c4]
        simp only [List.append_assoc, List.take_append_drop]
    · rename_i hok2
      simp only [Prod.mk.injEq] at h
      obtain ⟨_, _, h3, h4⟩ := h
      exact absurd (by rw [h4, h3]; rfl) hok2
  · rename_i hok
    simp only [Prod.mk.injEq] at h
    obtain ⟨_, _, h3, h4⟩ := h
    exact absurd (by rw [h4, h3]; rfl) hok
structure KidFit (k : Kid) : Prop where
  id : k.id < 65536
  t : 0 ≤ k.t ∧ k.t < 256
  page : 0 ≤ k.page ∧ k.page < 256
theorem kidRB_ok {l l' : List UInt8} {st : Int} {bad : Bool} {r : Kid} (h : kidRB l st bad = (r, l', 0, false)) : st = 0 ∧ bad = false ∧ l = kidB r ++ l' ∧ KidFit r := by
  unfold kidRB kidR at h
  dsimp only at h
  simp only [Prod.mk.injEq] at h
  obtain ⟨h1, h2, h3, h4⟩ := h
  obtain ⟨hs2, hl3, e3⟩ := numR_zero h3
  obtain ⟨hs1, hl2, e2⟩ := numR_zero hs2
  obtain ⟨rfl, hl1, e1⟩ := numR_zero hs1
  subst h1; subst h2
  simp only [e3]
  simp only [e2] at hl3 ⊢
  simp only [e1] at hl2 hl3 ⊢
  have b1 := be_take hl1
  have b2 := be_take hl2
  have b3 := be_take hl3
  rw [be_one] at b1 b3
  have u1 := unbe_lt (l.take 1)
  have u2 := unbe_lt ((l.drop 1).take 2)
  have u3 := unbe_lt (((l.drop 1).drop 2).take 1)
  rw [List.length_take, Nat.min_eq_left hl1] at u1
  rw [List.length_take, Nat.min_eq_left hl2] at u2
  rw [List.length_take, Nat.min_eq_left hl3] at u3
  refine ⟨by trivial, h4, ?_, ⟨by dsimp only; omega, by dsimp only; omega, by dsimp only; omega⟩⟩
  unfold kidB keyB
  dsimp only
  rw [b2, tB_nat, tB_nat]
  have c1 : ∀ X : List UInt8, UInt8.ofNat (unbe (List.take 1 l)) :: X = List.take 1 l ++ X := fun X => by
    show [UInt8.ofNat (unbe (List.take 1 l))] ++ X = _
    rw [b1]
  rw [c1, b3]
  simp only [List.append_assoc, List.take_append_drop]
theorem manyTo_ok {α : Type} {f : List UInt8 → Int → Bool → α × RS3} {enc : α → List UInt8} {fit : α → Prop} (hf : ∀ {l l' : List UInt8} {st : Int} {bad : Bool} {x : α}, f l st bad = (x, l', 0, false) → st = 0 ∧ bad = false ∧ l = enc x ++ l' ∧ fit x) :
    ∀ {n : Nat} {l l' : List UInt8} {st : Int} {bad : Bool} {xs : List α}, manyTo f n l st bad = (xs, l', 0, false) → st = 0 ∧ bad = false ∧ xs.length = n ∧ l = xs.flatMap enc ++ l' ∧ ∀ x ∈ xs, fit x
  | 0, l, l', st, bad, xs, h => by
    rw [manyTo] at h
    simp only [Prod.mk.injEq] at h
    obtain ⟨rfl, rfl, rfl, rfl⟩ := h
    exact ⟨rfl, rfl, rfl, by simp, by simp⟩
  | n + 1, l, l', st, bad, xs, h => by
    rw [manyTo] at h
    split at h
    · simp only [Prod.mk.injEq] at h
      obtain ⟨h1, h2⟩ := h
      have key : manyTo f n (f l st bad).2.1 (f l st bad).2.2.1 (f l st bad).2.2.2 = ((manyTo f n (f l st bad).2.1 (f l st bad).2.2.1 (f l st bad).2.2.2).1, l', 0, false) := by rw [← h2]
      obtain ⟨g1, g2, g3, g4, g5⟩ := manyTo_ok hf key
      obtain ⟨k1, k2, k3, k4⟩ := hf (show f l st bad = ((f l st bad).1, (f l st bad).2.1, 0, false) by rw [← g1, ← g2])
      subst h1
      refine ⟨k1, k2, by simp [g3], ?_, ?_⟩
      · rw [List.flatMap_cons, List.append_assoc, ← g4]; exact k3
      · intro x hx
        rcases List.mem_cons.1 hx with rfl | hx
        · exact k4
        · exact g5 x hx
    · rename_i hok
      simp only [Prod.mk.injEq] at h
      obtain ⟨_, _, h3, h4⟩ := h
      exact absurd (by rw [h4, h3]; rfl) hok
theorem manyR_ok {α : Type} {f : List UInt8 → Int → Bool → α × RS3} {enc : α → List UInt8} {fit : α → Prop} (hf : ∀ {l l' : List UInt8} {st : Int} {bad : Bool} {x : α}, f l st bad = (x, l', 0, false) → st = 0 ∧ bad = false ∧ l = enc x ++ l' ∧ fit x)
    {l l' : List UInt8} {st : Int} {bad : Bool} {xs : List α} (h : manyR f l st bad = (xs, l', 0, false)) : st = 0 ∧ bad = false ∧ l = UInt8.ofNat xs.length :: xs.flatMap enc ++ l' ∧ ∀ x ∈ xs, fit x := by
  unfold manyR at h
  obtain ⟨g1, g2, g3, g4, g5⟩ := manyTo_ok hf h
  obtain ⟨rfl, hl, e⟩ := numR_zero g1
  obtain ⟨k1, _⟩ := needB_false g2 g1
  rw [e] at g3 g4
  dsimp only at g3 g4
  refine ⟨rfl, k1, ?_, g5⟩
  have b1 := be_take hl
  rw [be_one, ← g3] at b1
  rw [show UInt8.ofNat xs.length :: xs.flatMap enc ++ l' = [UInt8.ofNat xs.length] ++ (xs.flatMap enc ++ l') from rfl, b1, ← g4, List.take_append_drop]
structure ContFit (c : Cont) : Prop where
  row : ∀ r ∈ c.rows, RowFit r
  kid : ∀ k ∈ c.kids, KidFit k
theorem contentR_ok {l l' : List UInt8} {c : Cont} (h : contentR l = (c, l', 0, false)) : contOk c = true ∧ l = contB c ++ l' ∧ ContFit c := by
  unfold contentR contE at h
  simp only [Prod.mk.injEq] at h
  obtain ⟨h1, h2, h3, h4⟩ := h
  generalize hm : contM (numR 1 l 0).1 (numR 1 l 0).2.1 (numR 1 l 0).2.2 (needB false (numR 1 l 0).2.2 (decide (((numR 1 l 0).1 : Int) ≤ 2))) = m at *
  obtain ⟨⟨rows, kids⟩, l2, st2, b2⟩ := m
  dsimp only at h1 h2 h3 h4
  subst h2; subst h3; subst h1
  obtain ⟨rfl, hok⟩ := needB_false h4 rfl
  refine ⟨hok, ?_⟩
  unfold contM at hm
  have hF := contOk_facts hok
  have hkind := hF.kind
  dsimp only at hkind
  split at hm
  · rename_i hokk
    rw [Bool.and_eq_true, Bool.not_eq_true'] at hokk
    obtain ⟨_, hs1⟩ := hokk
    have hs1 := of_decide_eq_true hs1
    obtain ⟨_, hl1, e1⟩ := numR_zero hs1
    have b1 := be_take hl1
    rw [be_one] at b1
    rw [e1] at hm hkind hok ⊢
    dsimp only at hm hkind hok ⊢
    generalize hx : unbe (List.take 1 l) = x at *
    have hl : l = UInt8.ofNat x :: l.drop 1 := by
      have : l = l.take 1 ++ l.drop 1 := (List.take_append_drop 1 l).symm
      rw [← b1] at this
      exact this
    split at hm
    · rename_i hx1
      simp only [Prod.mk.injEq] at hm
      obtain ⟨⟨h1, h2⟩, h3⟩ := hm
      subst h2
      have key : manyR rowR (l.drop 1) 0 (needB false 0 (decide ((x : Int) ≤ 2))) = (rows, l2, 0, false) := by rw [← h1, ← h3]
      obtain ⟨_, _, g3, g4⟩ := manyR_ok (enc := rowB) (fit := RowFit) (fun h => ⟨(rowR_ok h).1, (rowR_ok h).2.1, (rowR_ok h).2.2.2.1, (rowR_ok h).2.2.2.2⟩) key
      refine ⟨?_, ⟨g4, by simp⟩⟩
      have hc : contB ⟨x, rows, []⟩ = UInt8.ofNat x :: (UInt8.ofNat rows.length :: rows.flatMap rowB) := by
        unfold contB cntB
        rw [if_neg (by dsimp only; omega), tB_nat]; simp
      rw [hc, hl, g3]; rfl
    · split at hm
      · rename_i hx1 hx2
        simp only [Prod.mk.injEq] at hm
        obtain ⟨⟨h1, h2⟩, h3⟩ := hm
        subst h1
        have key : manyR kidRB (l.drop 1) 0 (needB false 0 (decide ((x : Int) ≤ 2))) = (kids, l2, 0, false) := by rw [← h2, ← h3]
        obtain ⟨_, _, g3, g4⟩ := manyR_ok (enc := kidB) (fit := KidFit) (fun h => kidRB_ok h) key
        refine ⟨?_, ⟨by simp, g4⟩⟩
        have hc : contB ⟨x, [], kids⟩ = UInt8.ofNat x :: (UInt8.ofNat kids.length :: kids.flatMap kidB) := by
          unfold contB cntB
          rw [if_neg (by dsimp only; omega), tB_nat]; simp
        rw [hc, hl, g3]; rfl
      · rename_i hx1 hx2
        simp only [Prod.mk.injEq] at hm
        obtain ⟨⟨h1, h2⟩, h3, _⟩ := hm
        subst h1; subst h2; subst h3
        have hx0 : (x : Int) = 0 := by
          rcases hkind with h | h | h
          · exact h.1
          · exact absurd (by omega) hx1
          · exact absurd (by omega) hx2
        refine ⟨?_, ⟨by simp, by simp⟩⟩
        have hc : contB ⟨x, [], []⟩ = [UInt8.ofNat x] := by
          unfold contB cntB
          rw [if_pos hx0, tB_nat]; simp
        rw [hc]; exact hl
  · rename_i hokk
    simp only [Prod.mk.injEq] at hm
    obtain ⟨⟨h1, h2⟩, h3, h4, h5⟩ := hm
    exact absurd (by rw [h5, h4]; rfl) hokk
theorem takenE_zero {bad : Bool} {st : Int} (h : takenE bad st = 0) : bad = false ∧ st = 0 := by
  cases bad
  · exact ⟨rfl, h⟩
  · simp [takenE] at h
theorem takeRow_ok {l : List UInt8} (h : (takeRowR l).2.2 = 0) : ∃ n : Nat, (takeRowR l).2.1 = n ∧ n ≤ l.length ∧ rowOk (takeRowR l).1 = true ∧ rowB (takeRowR l).1 = l.take n ∧ RowFit (takeRowR l).1 := by
  unfold takeRowR at h ⊢
  dsimp only at h ⊢
  obtain ⟨hb, hs⟩ := takenE_zero h
  generalize hr : rowR l 0 false = r at *
  obtain ⟨x, l', st, bad⟩ := r
  dsimp only at hb hs
  subst hb; subst hs
  obtain ⟨_, _, g1, g2, g3⟩ := rowR_ok hr
  have hl := congrArg List.length g2
  simp only [List.length_append] at hl
  refine ⟨(rowB x).length, ?_, by omega, ?_⟩
  · simp [takenN]; omega
  · simp only [Bool.false_or, ne_eq, not_true_eq_false, decide_false, Bool.false_eq_true, if_false]
    exact ⟨g1, by rw [g2]; simp, g3⟩
theorem takeCont_ok {l : List UInt8} (h : (takeContR l).2.2 = 0) : ∃ n : Nat, (takeContR l).2.1 = n ∧ n ≤ l.length ∧ contOk (takeContR l).1 = true ∧ contB (takeContR l).1 = l.take n ∧ ContFit (takeContR l).1 := by
  unfold takeContR at h ⊢
  dsimp only at h ⊢
  obtain ⟨hb, hs⟩ := takenE_zero h
  generalize hr : contentR l = r at *
  obtain ⟨x, l', st, bad⟩ := r
  dsimp only at hb hs
  subst hb; subst hs
  obtain ⟨g1, g2, g3⟩ := contentR_ok hr
  have hl := congrArg List.length g2
  simp only [List.length_append] at hl
  refine ⟨(contB x).length, ?_, by omega, ?_⟩
  · simp [takenN]; omega
  · simp only [Bool.false_or, ne_eq, not_true_eq_false, decide_false, Bool.false_eq_true, if_false]
    exact ⟨g1, by rw [g2]; simp, g3⟩
theorem takeCont_bad {l : List UInt8} (h : (takeContR l).2.2 ≠ 0) : (takeContR l).1 = ⟨0, [], []⟩ ∧ (takeContR l).2.1 = 0 := by
  unfold takeContR at h ⊢
  dsimp only at h ⊢
  generalize contentR l = r at *
  obtain ⟨x, l', st, bad⟩ := r
  dsimp only at h ⊢
  cases bad
  · have hs : st ≠ 0 := h
    simp [takenN, hs]
  · simp [takenN]
theorem contB_len {c : Cont} (h : contOk c = true) : (contB c).length ≤ 82 := by
  have hF := contOk_facts h
  have h1 := flatMap_le rowB 20 c.rows (fun x hx => rowB_le (hF.row x hx))
  have h2 := flatMap_le kidB 4 c.kids (fun x hx => Nat.le_of_eq (kidB_len x))
  have h3 : (cntB c).length ≤ 1 := by unfold cntB; split <;> simp
  have hk := hF.kind
  have hrl := hF.rl
  have hkl := hF.kl
  simp only [contB, List.length_cons, List.length_append]
  have er : c.rows = [] → (c.rows.flatMap rowB).length = 0 := fun e => by rw [e]; rfl
  have ek : c.kids = [] → (c.kids.flatMap kidB).length = 0 := fun e => by rw [e]; rfl
  rcases hk with ⟨_, hr, hk⟩ | ⟨_, hk⟩ | ⟨_, hr, _⟩
  · have := er hr; have := ek hk; omega
  · have := ek hk; omega
  · have := er hr; omega
end Go.Proofs.E

namespace Go.Proofs.E
open Go
set_option linter.unusedVariables false
set_option linter.unusedSimpArgs false
set_option linter.unusedSectionVars false
set_option maxRecDepth 4000
set_option maxHeartbeats 1000000
attribute [local irreducible] Yl TL TC TE Spec YSpec R1 Hp.le EnvLe TS TR YS Stays
/-! ## what was laid is taken back; less is too short -/
theorem numR_app {k : Nat} {x rest : List UInt8} (h : x.length = k) : numR k (x ++ rest) 0 = (unbe x, rest, 0) := by
  unfold numR
  rw [if_neg (by simp), if_neg (by simp; omega), List.take_left' h, List.drop_left' h]
theorem numR_short {k : Nat} {x : List UInt8} (h : x.length < k) : numR k x 0 = (0, x, 7) := by
  unfold numR
  rw [if_neg (by simp), if_pos h]
theorem numR_seven {k : Nat} {x : List UInt8} : numR k x 7 = (0, x, 7) := by
  unfold numR
  rw [if_pos (by decide)]
theorem unbe_one (b : UInt8) : unbe [b] = b.toNat := by simp [unbe]
theorem tB_toNat {t : Int} (h0 : 0 ≤ t) (h1 : t < 256) : ((tB t).toNat : Int) = t := by
  obtain ⟨n, rfl⟩ : ∃ n : Nat, t = n := ⟨t.toNat, by omega⟩
  simp only [tB, Int.toNat_natCast, UInt8.toNat_ofNat']
  have e : (2 : Nat) ^ 8 = 256 := by decide
  rw [e]; omega
theorem rowR_back {r : Row} (hr : rowOk r = true) (hf : RowFit r) (rest : List UInt8) : rowR (rowB r ++ rest) 0 false = (r, rest, 0, false) := by
  obtain ⟨h0, h3, h8⟩ := rowOk_iff hr
  obtain ⟨hid, hval⟩ := hf
  obtain ⟨t, id, val, note⟩ := r
  dsimp only at h0 h3 h8 hid hval
  have e0 : rowB ⟨t, id, val, note⟩ ++ rest = [tB t] ++ (be 2 id ++ (be 8 (vN val) ++ ([UInt8.ofNat note.length] ++ (note ++ rest)))) := by simp [rowB, keyB]
  have e1 : numR 1 (rowB ⟨t, id, val, note⟩ ++ rest) 0 = ((tB t).toNat, be 2 id ++ (be 8 (vN val) ++ ([UInt8.ofNat note.length] ++ (note ++ rest))), 0) := by rw [e0, numR_app (k := 1) (x := [tB t]) rfl, unbe_one]
  have e2 := numR_app (k := 2) (x := be 2 id) (rest := be 8 (vN val) ++ ([UInt8.ofNat note.length] ++ (note ++ rest))) (be_length _ _)
  have e3 := numR_app (k := 8) (x := be 8 (vN val)) (rest := [UInt8.ofNat note.length] ++ (note ++ rest)) (be_length _ _)
  have e4 := numR_app (k := 1) (x := [UInt8.ofNat note.length]) (rest := note ++ rest) rfl
  rw [unbe_be, Nat.mod_eq_of_lt (by omega)] at e2
  rw [unbe_be, Nat.mod_eq_of_lt (by have := vN_lt val; omega)] at e3
  have hlen : (UInt8.ofNat note.length).toNat = note.length := by
    rw [UInt8.toNat_ofNat']
    have e : (2 : Nat) ^ 8 = 256 := by decide
    rw [e]; omega
  rw [unbe_one, hlen] at e4
  have e5 : rawR note.length (note ++ rest) 0 = (note, rest, 0) := by
    unfold rawR
    rw [if_neg (by simp), if_neg (by simp), List.take_left' rfl, List.drop_left' rfl]
  have ht := tB_toNat h0 (by omega : t < 256)
  unfold rowR
  simp only [e1, e2, e3, e4, e5]
  have hb1 : needB false 0 (decide (((tB t).toNat : Int) < 3)) = false := by rw [ht, decide_eq_true h3]; rfl
  have hb2 : needB false 0 (decide ((note.length : Int) ≤ 8)) = false := by rw [decide_eq_true (by omega)]; rfl
  simp only [hb1, hb2, Bool.not_false, decide_true, Bool.and_self, if_true]
  rw [ht, i64N_vN hval]
theorem kidRB_back {k : Kid} (hid : k.id < 65536) (ht : 0 ≤ k.t ∧ k.t < 3) (hp : 0 < k.page ∧ k.page < 64) (rest : List UInt8) : kidRB (kidB k ++ rest) 0 false = (k, rest, 0, false) := by
  obtain ⟨t, id, page⟩ := k
  dsimp only at hid ht hp
  have e0 : kidB ⟨t, id, page⟩ ++ rest = [tB t] ++ (be 2 id ++ ([tB page] ++ rest)) := by simp [kidB, keyB]
  have e1 : numR 1 (kidB ⟨t, id, page⟩ ++ rest) 0 = ((tB t).toNat, be 2 id ++ ([tB page] ++ rest), 0) := by rw [e0, numR_app (k := 1) (x := [tB t]) rfl, unbe_one]
  have e2 := numR_app (k := 2) (x := be 2 id) (rest := [tB page] ++ rest) (be_length _ _)
  have e3 := numR_app (k := 1) (x := [tB page]) (rest := rest) rfl
  rw [unbe_be, Nat.mod_eq_of_lt (by omega)] at e2
  rw [unbe_one] at e3
  unfold kidRB kidR
  simp only [e1, e2, e3, tB_toNat ht.1 (by omega : t < 256), tB_toNat (by omega : 0 ≤ page) (by omega : page < 256)]
theorem manyTo_back {α : Type} {f : List UInt8 → Int → Bool → α × RS3} {enc : α → List UInt8} : ∀ (xs : List α), (∀ x ∈ xs, ∀ rest, f (enc x ++ rest) 0 false = (x, rest, 0, false)) → ∀ rest, manyTo f xs.length (xs.flatMap enc ++ rest) 0 false = (xs, rest, 0, false)
  | [], _, rest => rfl
  | x :: xs, h, rest => by
    rw [List.length_cons, manyTo, if_pos (by decide), List.flatMap_cons, List.append_assoc, h x (by simp)]
    dsimp only
    rw [manyTo_back xs (fun y hy => h y (by simp [hy]))]
theorem manyR_back {α : Type} {f : List UInt8 → Int → Bool → α × RS3} {enc : α → List UInt8} {xs : List α} (hl : xs.length ≤ 4) (h : ∀ x ∈ xs, ∀ rest, f (enc x ++ rest) 0 false = (x, rest, 0, false)) (rest : List UInt8) :
    manyR f (UInt8.ofNat xs.length :: (xs.flatMap enc ++ rest)) 0 false = (xs, rest, 0, false) := by
  have hlen : (UInt8.ofNat xs.length).toNat = xs.length := by
    rw [UInt8.toNat_ofNat']
    have e : (2 : Nat) ^ 8 = 256 := by decide
    rw [e]; omega
  have e1 : numR 1 (UInt8.ofNat xs.length :: (xs.flatMap enc ++ rest)) 0 = (xs.length, xs.flatMap enc ++ rest, 0) := by
    have := numR_app (k := 1) (x := [UInt8.ofNat xs.length]) (rest := xs.flatMap enc ++ rest) rfl
    rw [unbe_one, hlen] at this
    exact this
  unfold manyR
  simp only [e1]
  have hb : needB false 0 (decide ((xs.length : Int) ≤ 4)) = false := by rw [decide_eq_true (by omega)]; rfl
  rw [hb]
  exact manyTo_back xs h rest
structure IdFit (c : Cont) : Prop where
  row : ∀ r ∈ c.rows, RowFit r
  kid : ∀ k ∈ c.kids, k.id < 65536
theorem contB_form {c : Cont} (h : contOk c = true) : (c.kind = 0 ∧ c = ⟨0, [], []⟩ ∧ contB c = [0]) ∨ (c.kind = 1 ∧ c.kids = [] ∧ contB c = 1 :: (UInt8.ofNat c.rows.length :: c.rows.flatMap rowB)) ∨ (c.kind = 2 ∧ c.rows = [] ∧ contB c = 2 :: (UInt8.ofNat c.kids.length :: c.kids.flatMap kidB)) := by
  have hF := (contOk_facts h).kind
  obtain ⟨kind, rows, kids⟩ := c
  dsimp only at hF ⊢
  rcases hF with ⟨rfl, rfl, rfl⟩ | ⟨rfl, rfl⟩ | ⟨rfl, rfl, _⟩
  · exact .inl ⟨rfl, rfl, by simp [contB, cntB]; rfl⟩
  · exact .inr (.inl ⟨rfl, rfl, by simp [contB, cntB]; rfl⟩)
  · exact .inr (.inr ⟨rfl, rfl, by simp [contB, cntB]; rfl⟩)
theorem contentR_back {c : Cont} (h : contOk c = true) (hf : IdFit c) (rest : List UInt8) : contentR (contB c ++ rest) = (c, rest, 0, false) := by
  have hF := contOk_facts h
  have hrb : ∀ r ∈ c.rows, ∀ rest, rowR (rowB r ++ rest) 0 false = (r, rest, 0, false) := fun r hr rest => rowR_back (hF.row r hr) (hf.row r hr) rest
  have hkb : ∀ k ∈ c.kids, ∀ rest, kidRB (kidB k ++ rest) 0 false = (k, rest, 0, false) := fun k hk rest => kidRB_back (hf.kid k hk) (hF.kid k hk).1 (hF.kid k hk).2 rest
  have hrl := hF.rl
  have hkl := hF.kl
  rcases contB_form h with ⟨hk, rfl, e⟩ | ⟨hk, hks, e⟩ | ⟨hk, hrs, e⟩
  · rw [e]
    have e1 : numR 1 ([0] ++ rest) 0 = (0, rest, 0) := by rw [numR_app (k := 1) (x := [0]) rfl]; rfl
    unfold contentR contE
    simp only [e1]
    rfl
  · obtain ⟨kind, rows, kids⟩ := c
    dsimp only at hk hks
    subst hk; subst hks
    rw [e]
    have e1 : numR 1 (1 :: (UInt8.ofNat rows.length :: rows.flatMap rowB) ++ rest) 0 = (1, UInt8.ofNat rows.length :: (rows.flatMap rowB ++ rest), 0) := by
      have := numR_app (k := 1) (x := [1]) (rest := UInt8.ofNat rows.length :: (rows.flatMap rowB ++ rest)) rfl
      exact this
    have hb : needB false 0 (decide (((1 : Nat) : Int) ≤ 2)) = false := rfl
    unfold contentR contE
    simp only [e1, hb, contM, manyR_back hrl hrb rest, Bool.not_false, decide_true, Bool.and_self, if_true]
    have hn : needB false 0 (contOk ⟨((1 : Nat) : Int), rows, []⟩) = false := by rw [show contOk ⟨((1 : Nat) : Int), rows, []⟩ = true from h]; rfl
    rw [hn]; rfl
  · obtain ⟨kind, rows, kids⟩ := c
    dsimp only at hk hrs
    subst hk; subst hrs
    rw [e]
    have e1 : numR 1 (2 :: (UInt8.ofNat kids.length :: kids.flatMap kidB) ++ rest) 0 = (2, UInt8.ofNat kids.length :: (kids.flatMap kidB ++ rest), 0) := by
      have := numR_app (k := 1) (x := [2]) (rest := UInt8.ofNat kids.length :: (kids.flatMap kidB ++ rest)) rfl
      exact this
    have hb : needB false 0 (decide (((2 : Nat) : Int) ≤ 2)) = false := rfl
    unfold contentR contE
    simp only [e1, hb, contM, manyR_back hkl hkb rest, Bool.not_false, decide_true, Bool.and_self, if_true, show ¬ ((2 : Nat) = 1) by decide, if_false]
    have hn : needB false 0 (contOk ⟨((2 : Nat) : Int), [], kids⟩) = false := by rw [show contOk ⟨((2 : Nat) : Int), [], kids⟩ = true from h]; rfl
    rw [hn]; rfl
theorem takeCont_back {c : Cont} (h : contOk c = true) (hf : IdFit c) (rest : List UInt8) : takeContR (contB c ++ rest) = (c, (((contB c).length : Nat) : Int), 0) := by
  unfold takeContR
  simp only [contentR_back h hf rest]
  simp [takenN, takenE]
theorem takeRow_back {r : Row} (h : rowOk r = true) (hf : RowFit r) (rest : List UInt8) : takeRowR (rowB r ++ rest) = (r, (((rowB r).length : Nat) : Int), 0) := by
  unfold takeRowR
  simp only [rowR_back h hf rest]
  simp [takenN, takenE]
end Go.Proofs.E

namespace Go.Proofs.E
open Go
set_option linter.unusedVariables false
set_option linter.unusedSimpArgs false
section
variable {x : Cx} {E : Env} {ρ : Hp} {L : SH} {ty : TypeId}
theorem and_lt {k m n : Nat} (hm : m < 2 ^ k) : m &&& n < 2 ^ k := Nat.lt_of_le_of_lt Nat.and_le_left hm
def bitsOk (k : IntKind) : Bool := match k with | .u8 => true | .u32 => true | .u64 => true | _ => false
theorem wrap_nat {k : IntKind} (hk : bitsOk k = true) {n : Nat} (h : n < 2 ^ k.bits) : k.wrap (n : Int) = n := by
  refine wrap_id ?_
  cases k <;> first | (exact absurd hk (by decide)) | skip
  all_goals simp only [IntKind.bits] at h
  all_goals simp only [lo, hi]
  all_goals omega
theorem bv_and {k : Nat} {m n : Nat} (hm : m < 2 ^ k) (hn : n < 2 ^ k) : (BitVec.ofInt k (m : Int) &&& BitVec.ofInt k (n : Int)).toNat = m &&& n := by
  rw [BitVec.toNat_and, BitVec.ofInt_natCast, BitVec.ofInt_natCast, BitVec.toNat_ofNat, BitVec.toNat_ofNat, Nat.mod_eq_of_lt hm, Nat.mod_eq_of_lt hn]
theorem bv_xor {k : Nat} {m n : Nat} (hm : m < 2 ^ k) (hn : n < 2 ^ k) : (BitVec.ofInt k (m : Int) ^^^ BitVec.ofInt k (n : Int)).toNat = m ^^^ n := by
  rw [BitVec.toNat_xor, BitVec.ofInt_natCast, BitVec.ofInt_natCast, BitVec.toNat_ofNat, BitVec.toNat_ofNat, Nat.mod_eq_of_lt hm, Nat.mod_eq_of_lt hn]
theorem y_and_nat {p q : Operand} {t t' : TypeId} {k : IntKind} {m n : Nat} (h1 : ev E p = some (.int k m)) (h2 : ev E q = some (.int k n)) (hk : bitsOk k = true) (hm : m < 2 ^ k.bits) (hn : n < 2 ^ k.bits) : Yl x (.binOp .and t p q t') ty E ρ L (.int k ((m &&& n : Nat) : Int)) := fun a w _ _ _ _ ha _ => by
  have hb : (Op.intBits .and k m n).run x.P w = .ok (.int k ((m &&& n : Nat) : Int)) w := by
    show (pure (.int k (k.wrap ((BitVec.ofInt k.bits m &&& BitVec.ofInt k.bits n).toNat : Int))) : Sem Value).run x.P w = _
    rw [bv_and hm hn, wrap_nat hk (and_lt hm)]; rfl
  simp [execOp, ha.eval h1, ha.eval h2, eqGuard, binOp, hb]
theorem y_xor_nat {p q : Operand} {t t' : TypeId} {k : IntKind} {m n : Nat} (h1 : ev E p = some (.int k m)) (h2 : ev E q = some (.int k n)) (hk : bitsOk k = true) (hm : m < 2 ^ k.bits) (hn : n < 2 ^ k.bits) : Yl x (.binOp .xor t p q t') ty E ρ L (.int k ((m ^^^ n : Nat) : Int)) := fun a w _ _ _ _ ha _ => by
  have hb : (Op.intBits .xor k m n).run x.P w = .ok (.int k ((m ^^^ n : Nat) : Int)) w := by
    show (pure (.int k (k.wrap ((BitVec.ofInt k.bits m ^^^ BitVec.ofInt k.bits n).toNat : Int))) : Sem Value).run x.P w = _
    rw [bv_xor hm hn, wrap_nat hk (Nat.xor_lt_two_pow hm hn)]; rfl
  simp [execOp, ha.eval h1, ha.eval h2, eqGuard, binOp, hb]
/-- bits of numbers, as integers -/
def andI (m n : Int) : Int := ((m.toNat &&& n.toNat : Nat) : Int)
def xorI (m n : Int) : Int := ((m.toNat ^^^ n.toNat : Nat) : Int)
def bitsHi (k : IntKind) : Int := match k with | .u8 => 256 | .u32 => 4294967296 | .u64 => 18446744073709551616 | _ => 0
theorem bitsHi_eq {k : IntKind} (h : bitsOk k = true) : bitsHi k = 2 ^ k.bits := by
  cases k <;> first | (exact absurd h (by decide)) | rfl
theorem toNat_lt {k : Nat} {m : Int} (h : 0 ≤ m ∧ m < 2 ^ k) : m.toNat < 2 ^ k := by
  have : ((m.toNat : Nat) : Int) < ((2 ^ k : Nat) : Int) := by rw [Int.toNat_of_nonneg h.1]; simpa using h.2
  exact Int.ofNat_lt.1 this
theorem y_and {p q : Operand} {t t' : TypeId} {k : IntKind} {m n : Int} (h1 : ev E p = some (.int k m)) (h2 : ev E q = some (.int k n)) (hm : 0 ≤ m ∧ m < bitsHi k) (hn : 0 ≤ n ∧ n < bitsHi k) (hk : bitsOk k = true) : Yl x (.binOp .and t p q t') ty E ρ L (.int k (andI m n)) :=
  y_and_nat (by rw [Int.toNat_of_nonneg hm.1]; exact h1) (by rw [Int.toNat_of_nonneg hn.1]; exact h2) hk (toNat_lt (by rw [← bitsHi_eq hk]; exact hm)) (toNat_lt (by rw [← bitsHi_eq hk]; exact hn))
theorem y_xor {p q : Operand} {t t' : TypeId} {k : IntKind} {m n : Int} (h1 : ev E p = some (.int k m)) (h2 : ev E q = some (.int k n)) (hm : 0 ≤ m ∧ m < bitsHi k) (hn : 0 ≤ n ∧ n < bitsHi k) (hk : bitsOk k = true) : Yl x (.binOp .xor t p q t') ty E ρ L (.int k (xorI m n)) :=
  y_xor_nat (by rw [Int.toNat_of_nonneg hm.1]; exact h1) (by rw [Int.toNat_of_nonneg hn.1]; exact h2) hk (toNat_lt (by rw [← bitsHi_eq hk]; exact hm)) (toNat_lt (by rw [← bitsHi_eq hk]; exact hn))
theorem y_compl {p : Operand} {t : TypeId} {m : Int} (h1 : ev E p = some (.int .u32 m)) (hm : 0 ≤ m ∧ m < 4294967296) : Yl x (.unOp .xor t p) ty E ρ L (.int .u32 (xorI 4294967295 m)) := fun a w _ _ _ _ ha _ => by
  have hm2 : m.toNat < 2 ^ IntKind.u32.bits := toNat_lt hm
  have hc : (4294967295 : Nat) < 2 ^ IntKind.u32.bits := by decide
  have hb : (Op.intBits .xor .u32 (IntKind.u32.max) m).run x.P w = .ok (.int .u32 (xorI 4294967295 m)) w := by
    show (pure (.int .u32 (IntKind.u32.wrap ((BitVec.ofInt IntKind.u32.bits ((4294967295 : Nat) : Int) ^^^ BitVec.ofInt IntKind.u32.bits m).toNat : Int))) : Sem Value).run x.P w = _
    rw [show m = ((m.toNat : Nat) : Int) from (Int.toNat_of_nonneg hm.1).symm, bv_xor hc hm2, wrap_nat rfl (Nat.xor_lt_two_pow hc hm2)]
    have e0 : (max m 0).toNat = m.toNat := by congr 1; omega
    simp [xorI, e0]
  have hu : (if IntKind.u32.signed = true then (-1 : Int) else IntKind.u32.max) = IntKind.u32.max := rfl
  simp only [execOp, ha.eval h1, Op.unary, hu, Sem.run_bind, hb, Result.andThen_ok]
  rfl
end
section
variable {x : Cx} {Q : Exit → Act → World → Prop} {E : Env} {ρ ρ0 : Hp} {L Ls : SH} {ops : Array Oper} {rest tail : List Oper} {ty : TypeId} {pos : String} {af : Array Edge} {d : Nat} {v : Value} {dd : Option Nat} {l : List Oper} {listed : List Bool} {fuel : Nat}

theorem iAn {p q : Operand} {t t' : Nat} (h : TL x ops (⟨dd, (.binOp .and t p q t'), ty, pos, af, none⟩ :: rest) Q E ρ L) : TL x ops (⟨dd, (.binOp .and t p q t'), ty, pos, af, none⟩ :: rest) Q E ρ L := h
theorem qAn {p q : Operand} {t t' : Nat} (k : TL x ops rest Q ((d, v) :: E) ρ L) (y : Yl x ((.binOp .and t p q t')) ty E ρ L v := by first | exact y_and rfl rfl (by simp only [bitsHi]; omega) (by simp only [bitsHi]; omega) (by decide)) (hd : Nat.blt d x.N = true := by rfl) : TL x ops (⟨some d, (.binOp .and t p q t'), ty, pos, af, none⟩ :: rest) Q E ρ L := tl_y y hd rfl k
theorem jAn {p q : Operand} {t t' : Nat} (h : TS x ops (⟨dd, (.binOp .and t p q t'), ty, pos, af, none⟩ :: rest) tail Q E ρ L) : TS x ops (⟨dd, (.binOp .and t p q t'), ty, pos, af, none⟩ :: rest) tail Q E ρ L := h
theorem sAn {p q : Operand} {t t' : Nat} (k : TS x ops rest tail Q ((d, v) :: E) ρ L) (y : Yl x ((.binOp .and t p q t')) ty E ρ L v := by first | exact y_and rfl rfl (by simp only [bitsHi]; omega) (by simp only [bitsHi]; omega) (by decide)) (hd : Nat.blt d x.N = true := by rfl) : TS x ops (⟨some d, (.binOp .and t p q t'), ty, pos, af, none⟩ :: rest) tail Q E ρ L := ts_y y hd k
theorem rAn (n0 : Nat) {p q : Operand} {t t' : Nat} (k : TR x l (Stays x ρ0 Ls) fuel (lset listed n0) Q ((d, v) :: E) ρ L) (hb : takeB l listed n0 = true := by decide +kernel) (hi : l[n0]? = some ⟨some d, (.binOp .and t p q t'), ty, pos, af, none⟩ := by rfl) (y : ∀ ρ', ρ0.le ρ' → Yl x ((.binOp .and t p q t')) ty E ρ' Ls v := by intro _ _; first | exact y_and rfl rfl (by simp only [bitsHi]; omega) (by simp only [bitsHi]; omega) (by decide)) (hd : Nat.blt d x.N = true := by rfl) : TR x l (Stays x ρ0 Ls) (fuel + 1) listed Q E ρ L := tr_take n0 hb hi (ys_of' (fun _ h => h) y) hd k
theorem wAn (n0 : Nat) {p q : Operand} {t t' : Nat} {j t0 : Nat} {b0 : Bool} (k : TR x l (Stays x ρ0 Ls) fuel (lset listed n0) Q ((d, v) :: E) ρ L) (hb : takeB l listed n0 = true := by decide +kernel) (hi : l[n0]? = some ⟨some d, (.binOp .and t p q t'), ty, pos, af, some (j, b0)⟩ := by rfl) (hj : (l[j]?).bind (·.dst) = some t0 := by rfl) (he : lk E t0 = some (.bool b0) := by rfl) (y : ∀ ρ', ρ0.le ρ' → Yl x ((.binOp .and t p q t')) ty E ρ' Ls v := by intro _ _; first | exact y_and rfl rfl (by simp only [bitsHi]; omega) (by simp only [bitsHi]; omega) (by decide)) (hd : Nat.blt d x.N = true := by rfl) : TR x l (Stays x ρ0 Ls) (fuel + 1) listed Q E ρ L := tr_want n0 hb hi hj he (ys_of' (fun _ h => h) y) hd k
theorem iXo {p q : Operand} {t t' : Nat} (h : TL x ops (⟨dd, (.binOp .xor t p q t'), ty, pos, af, none⟩ :: rest) Q E ρ L) : TL x ops (⟨dd, (.binOp .xor t p q t'), ty, pos, af, none⟩ :: rest) Q E ρ L := h
theorem qXo {p q : Operand} {t t' : Nat} (k : TL x ops rest Q ((d, v) :: E) ρ L) (y : Yl x ((.binOp .xor t p q t')) ty E ρ L v := by first | exact y_xor rfl rfl (by simp only [bitsHi]; omega) (by simp only [bitsHi]; omega) (by decide)) (hd : Nat.blt d x.N = true := by rfl) : TL x ops (⟨some d, (.binOp .xor t p q t'), ty, pos, af, none⟩ :: rest) Q E ρ L := tl_y y hd rfl k
theorem jXo {p q : Operand} {t t' : Nat} (h : TS x ops (⟨dd, (.binOp .xor t p q t'), ty, pos, af, none⟩ :: rest) tail Q E ρ L) : TS x ops (⟨dd, (.binOp .xor t p q t'), ty, pos, af, none⟩ :: rest) tail Q E ρ L := h
theorem sXo {p q : Operand} {t t' : Nat} (k : TS x ops rest tail Q ((d, v) :: E) ρ L) (y : Yl x ((.binOp .xor t p q t')) ty E ρ L v := by first | exact y_xor rfl rfl (by simp only [bitsHi]; omega) (by simp only [bitsHi]; omega) (by decide)) (hd : Nat.blt d x.N = true := by rfl) : TS x ops (⟨some d, (.binOp .xor t p q t'), ty, pos, af, none⟩ :: rest) tail Q E ρ L := ts_y y hd k
theorem rXo (n0 : Nat) {p q : Operand} {t t' : Nat} (k : TR x l (Stays x ρ0 Ls) fuel (lset listed n0) Q ((d, v) :: E) ρ L) (hb : takeB l listed n0 = true := by decide +kernel) (hi : l[n0]? = some ⟨some d, (.binOp .xor t p q t'), ty, pos, af, none⟩ := by rfl) (y : ∀ ρ', ρ0.le ρ' → Yl x ((.binOp .xor t p q t')) ty E ρ' Ls v := by intro _ _; first | exact y_xor rfl rfl (by simp only [bitsHi]; omega) (by simp only [bitsHi]; omega) (by decide)) (hd : Nat.blt d x.N = true := by rfl) : TR x l (Stays x ρ0 Ls) (fuel + 1) listed Q E ρ L := tr_take n0 hb hi (ys_of' (fun _ h => h) y) hd k
theorem wXo (n0 : Nat) {p q : Operand} {t t' : Nat} {j t0 : Nat} {b0 : Bool} (k : TR x l (Stays x ρ0 Ls) fuel (lset listed n0) Q ((d, v) :: E) ρ L) (hb : takeB l listed n0 = true := by decide +kernel) (hi : l[n0]? = some ⟨some d, (.binOp .xor t p q t'), ty, pos, af, some (j, b0)⟩ := by rfl) (hj : (l[j]?).bind (·.dst) = some t0 := by rfl) (he : lk E t0 = some (.bool b0) := by rfl) (y : ∀ ρ', ρ0.le ρ' → Yl x ((.binOp .xor t p q t')) ty E ρ' Ls v := by intro _ _; first | exact y_xor rfl rfl (by simp only [bitsHi]; omega) (by simp only [bitsHi]; omega) (by decide)) (hd : Nat.blt d x.N = true := by rfl) : TR x l (Stays x ρ0 Ls) (fuel + 1) listed Q E ρ L := tr_want n0 hb hi hj he (ys_of' (fun _ h => h) y) hd k
theorem iNt {p : Operand} {t : Nat} (h : TL x ops (⟨dd, (.unOp .xor t p), ty, pos, af, none⟩ :: rest) Q E ρ L) : TL x ops (⟨dd, (.unOp .xor t p), ty, pos, af, none⟩ :: rest) Q E ρ L := h
theorem qNt {p : Operand} {t : Nat} (k : TL x ops rest Q ((d, v) :: E) ρ L) (y : Yl x ((.unOp .xor t p)) ty E ρ L v := by first | exact y_compl rfl (by omega)) (hd : Nat.blt d x.N = true := by rfl) : TL x ops (⟨some d, (.unOp .xor t p), ty, pos, af, none⟩ :: rest) Q E ρ L := tl_y y hd rfl k
theorem jNt {p : Operand} {t : Nat} (h : TS x ops (⟨dd, (.unOp .xor t p), ty, pos, af, none⟩ :: rest) tail Q E ρ L) : TS x ops (⟨dd, (.unOp .xor t p), ty, pos, af, none⟩ :: rest) tail Q E ρ L := h
theorem sNt {p : Operand} {t : Nat} (k : TS x ops rest tail Q ((d, v) :: E) ρ L) (y : Yl x ((.unOp .xor t p)) ty E ρ L v := by first | exact y_compl rfl (by omega)) (hd : Nat.blt d x.N = true := by rfl) : TS x ops (⟨some d, (.unOp .xor t p), ty, pos, af, none⟩ :: rest) tail Q E ρ L := ts_y y hd k
theorem rNt (n0 : Nat) {p : Operand} {t : Nat} (k : TR x l (Stays x ρ0 Ls) fuel (lset listed n0) Q ((d, v) :: E) ρ L) (hb : takeB l listed n0 = true := by decide +kernel) (hi : l[n0]? = some ⟨some d, (.unOp .xor t p), ty, pos, af, none⟩ := by rfl) (y : ∀ ρ', ρ0.le ρ' → Yl x ((.unOp .xor t p)) ty E ρ' Ls v := by intro _ _; first | exact y_compl rfl (by omega)) (hd : Nat.blt d x.N = true := by rfl) : TR x l (Stays x ρ0 Ls) (fuel + 1) listed Q E ρ L := tr_take n0 hb hi (ys_of' (fun _ h => h) y) hd k
theorem wNt (n0 : Nat) {p : Operand} {t : Nat} {j t0 : Nat} {b0 : Bool} (k : TR x l (Stays x ρ0 Ls) fuel (lset listed n0) Q ((d, v) :: E) ρ L) (hb : takeB l listed n0 = true := by decide +kernel) (hi : l[n0]? = some ⟨some d, (.unOp .xor t p), ty, pos, af, some (j, b0)⟩ := by rfl) (hj : (l[j]?).bind (·.dst) = some t0 := by rfl) (he : lk E t0 = some (.bool b0) := by rfl) (y : ∀ ρ', ρ0.le ρ' → Yl x ((.unOp .xor t p)) ty E ρ' Ls v := by intro _ _; first | exact y_compl rfl (by omega)) (hd : Nat.blt d x.N = true := by rfl) : TR x l (Stays x ρ0 Ls) (fuel + 1) listed Q E ρ L := tr_want n0 hb hi hj he (ys_of' (fun _ h => h) y) hd k
end
end Go.Proofs.E

-- BITS
namespace Go.Proofs.E
open Go
set_option linter.unusedVariables false
set_option linter.unusedSimpArgs false
set_option linter.unusedSectionVars false
set_option maxRecDepth 4000
set_option maxHeartbeats 1000000
attribute [local irreducible] Yl TL TC TE Spec YSpec R1 Hp.le EnvLe TS TR YS Stays
/-! ## sums of bytes -/
def hstep (x : Nat) : Nat := if x % 2 = 1 then (x / 2) ^^^ 2197175160 else x / 2
def hit : Nat → Nat → Nat
  | 0, x => x
  | j + 1, x => hstep (hit j x)
theorem hstep_lt {x : Nat} (h : x < 4294967296) : hstep x < 4294967296 := by
  unfold hstep
  split
  · exact Nat.xor_lt_two_pow (n := 32) (by omega) (by decide)
  · omega
theorem hit_lt {x : Nat} (h : x < 4294967296) : ∀ j, hit j x < 4294967296
  | 0 => h
  | j + 1 => hstep_lt (hit_lt h j)
def tabV : List Value := (List.range 16).map fun n => .int .u32 (hit 4 n : Nat)
def tabU (i : Nat) : List Value := ((List.range i).map fun n => Value.int .u32 (hit 4 n : Nat)) ++ List.replicate (16 - i) (.int .u32 0)
theorem tabU_len {i : Nat} (h : i ≤ 16) : (tabU i).length = 16 := by simp [tabU]; omega
theorem stc_at (A B : List Value) (x y : Value) {i : Nat} (h : A.length = i) : stc (A ++ x :: B) (0 + i * 1) [y] = A ++ y :: B := by
  unfold stc
  rw [Nat.zero_add, Nat.mul_one, List.take_left' h]
  have hd : List.drop (i + [y].length) (A ++ x :: B) = B := by
    rw [List.drop_append, List.drop_eq_nil_of_le (by simp; omega)]
    simp [← h]
  rw [hd]; simp
theorem tabU_set {i : Nat} (h : i < 16) : stc (tabU i) (0 + i * 1) [Value.int .u32 (hit 4 i : Nat)] = tabU (i + 1) := by
  unfold tabU
  have e : 16 - i = (16 - (i + 1)) + 1 := by omega
  rw [e, List.replicate_succ, stc_at _ _ _ _ (by simp), List.range_succ, List.map_append]
  simp
theorem halves_spec (ρ : Hp) : Spec Try.prog 154 [] ρ [] (fun v ρ' L' => v = .agg ⟨tabV⟩ ∧ ρ' = ρ ∧ L' = []) := by
  refine spec_enter Try.func154 rfl rfl rfl fun u R => ?_
  simp only [argsE, List.cons_append, List.nil_append]
  repeat' (first | (refine i_op ?_; first | (refine i_qq ?_; refine qQ ?_) | refine qEf ?_ | refine qAn ?_ | refine qXo ?_ | refine qNt ?_) | refine tl_nil ?_ | (refine i_tc ?_; refine qTc ?_) | (refine i_te ?_; refine qTe ?_) | intro _)
  rename_i b0 b1
  refine tc_loop_g [(0, _), (1, _)] (fun (ζ : (Nat) × (List Value)) => [(4, .int .i64 ζ.1)]) (fun (ζ : (Nat) × (List Value)) => ρ) (fun (ζ : (Nat) × (List Value)) => [[(b1, .cells ⟨ζ.2⟩ 214 (0, 0))]]) (fun (ζ : (Nat) × (List Value)) => ζ.1 ≤ 16 ∧ ζ.2 = tabU ζ.1) (fun (ζ : (Nat) × (List Value)) => 16 - ζ.1) ((0, List.replicate 16 (.int .u32 0))) (⟨Nat.zero_le _, rfl⟩) ev_le ev_le rfl tk ?_
  rintro ⟨i, cs⟩ hI
  try simp only [List.cons_append, List.nil_append, List.append_assoc, List.append_eq] at hI ⊢
  try dsimp only at hI ⊢
  obtain ⟨hi, rfl⟩ := hI
  have hcl := tabU_len hi
  by_cases hlt : i < 16
  · have hst := tabU_set hlt
    repeat' (first | (refine i_op ?_; first | (refine i_qq ?_; refine qQ ?_) | refine qEf ?_ | refine qAn ?_ | refine qXo ?_ | refine qNt ?_) | refine tl_nil ?_ | (refine i_tc ?_; refine qTc ?_) | (refine i_te ?_; refine qTe ?_) | intro _)
    refine tc_loop_g [(0, _), (1, _), (2, _), (4, _), (5, _), (6, _), (7, _), (8, _)] (fun (ζ : (Nat) × (Nat)) => [(9, .int .i64 ζ.1), (3, .int .u32 ζ.2)]) (fun (ζ : (Nat) × (Nat)) => ρ) (fun (ζ : (Nat) × (Nat)) => []) (fun (ζ : (Nat) × (Nat)) => ζ.1 ≤ 4 ∧ ζ.2 = hit ζ.1 i) (fun (ζ : (Nat) × (Nat)) => 4 - ζ.1) ((0, i)) (⟨Nat.zero_le _, rfl⟩) ev_le ev_le rfl tk ?_
    rintro ⟨j, y⟩ hI
    try simp only [List.cons_append, List.nil_append, List.append_assoc, List.append_eq] at hI ⊢
    try dsimp only at hI ⊢
    obtain ⟨hj, rfl⟩ := hI
    have hyl := hit_lt (x := i) (by omega) j
    by_cases hlj : j < 4
    · generalize hy : hit j i = y at *
      have hand : andI (y : Int) 1 = ((y % 2 : Nat) : Int) := by simp [andI, Nat.and_one_is_mod]
      have hnx : hit (j + 1) i = hstep y := by rw [← hy]; rfl
      unfold hstep at hnx
      have hdv : ((y : Nat) : Int) / 2 ^ 1 = ((y / 2 : Nat) : Int) := by omega
      by_cases ho : y % 2 = 1
      · rw [if_pos ho] at hnx
        have hxo : xorI ((y / 2 : Nat) : Int) 2197175160 = ((hit (j + 1) i : Nat) : Int) := by
          rw [hnx]
          show ((((y / 2 : Nat) : Int).toNat ^^^ (2197175160 : Int).toNat : Nat) : Int) = _
          rw [Int.toNat_natCast]; rfl
        rw [ho] at hand
        repeat' (first | (refine i_op ?_; first | (refine i_qq ?_; refine qQ ?_) | refine qEf ?_ | refine qAn ?_ | refine qXo ?_ | refine qNt ?_) | refine tl_nil ?_ | (refine i_tc ?_; refine qTc ?_) | (refine i_te ?_; refine qTe ?_) | intro _)
        simp only [hdv, hxo]
        refine te_round_g (j + 1, _) (⟨hlj, rfl⟩) ev_le ev_le rfl tk inferInstance (by first | omega | (dsimp only; omega))
      · rw [if_neg ho] at hnx
        rw [show y % 2 = 0 by omega] at hand
        repeat' (first | (refine i_op ?_; first | (refine i_qq ?_; refine qQ ?_) | refine qEf ?_ | refine qAn ?_ | refine qXo ?_ | refine qNt ?_) | refine tl_nil ?_ | (refine i_tc ?_; refine qTc ?_) | (refine i_te ?_; refine qTe ?_) | intro _)
        simp only [hdv, ← hnx]
        refine te_round_g (j + 1, _) (⟨hlj, rfl⟩) ev_le ev_le rfl tk inferInstance (by first | omega | (dsimp only; omega))
    · have h4 : j = 4 := by omega
      subst h4
      repeat' (first | (refine i_op ?_; first | (refine i_qq ?_; refine qQ ?_) | refine qEf ?_ | refine qAn ?_ | refine qXo ?_ | refine qNt ?_) | refine tl_nil ?_ | (refine i_tc ?_; refine qTc ?_) | (refine i_te ?_; refine qTe ?_) | intro _)
      rw [hst]
      refine te_round_g (i + 1, _) (⟨hlt, rfl⟩) ev_le ev_le rfl tk inferInstance (by first | omega | (dsimp only; omega))
  · have h16 : i = 16 := by omega
    subst h16
    have ht : tabU 16 = tabV := by simp [tabU, tabV]
    rw [ht] at hcl ⊢
    repeat' (first | (refine i_op ?_; first | (refine i_qq ?_; refine qQ ?_) | refine qEf ?_ | refine qAn ?_ | refine qXo ?_ | refine qNt ?_) | refine tl_nil ?_ | (refine i_tc ?_; refine qTc ?_) | (refine i_te ?_; refine qTe ?_) | intro _)
    exact qE (L' := []) ⟨rfl, rfl, rfl⟩
/-! the steps of half a byte, of bytes, and a sum -/
def hal (l n : Nat) : Nat := (l / 16) ^^^ hit 4 ((l ^^^ n) &&& 15)
def byt (l : Nat) (c : UInt8) : Nat := hal (hal l (c.toNat &&& 15)) (c.toNat / 16)
def goesN (l : Nat) (b : List UInt8) : Nat := b.foldl byt l
def sumB (b : List UInt8) : Nat := 4294967295 ^^^ goesN 4294967295 b
theorem and15 (n : Nat) : n &&& 15 < 16 := Nat.lt_of_le_of_lt Nat.and_le_right (by decide)
theorem hal_lt {l n : Nat} (h : l < 4294967296) : hal l n < 4294967296 := by
  unfold hal
  exact Nat.xor_lt_two_pow (n := 32) (by omega) (hit_lt (by have := and15 (l ^^^ n); omega) 4)
theorem byt_lt {l : Nat} {c : UInt8} (h : l < 4294967296) : byt l c < 4294967296 := hal_lt (hal_lt h)
theorem goesN_lt : ∀ (b : List UInt8) {l : Nat}, l < 4294967296 → goesN l b < 4294967296
  | [], l, h => h
  | c :: r, l, h => by show goesN (byt l c) r < _; exact goesN_lt r (byt_lt h)
theorem sumB_lt (b : List UInt8) : sumB b < 4294967296 := Nat.xor_lt_two_pow (n := 32) (by decide) (goesN_lt b (by decide))
theorem tabV_len : tabV.length = 16 := by simp [tabV]
theorem tabV_at {i : Nat} (h : i < 16) : tabV[0 + i * 1]? = some (.int .u32 (hit 4 i : Nat)) := by
  simp [tabV, h]
theorem goes1_spec (ρ : Hp) (lb tb l n : Nat) (hl : l < 4294967296) (hn : n < 256) :
    Spec Try.prog 155 [.int .u8 n, .pointer (some ⟨lb, 0, none⟩), .pointer (some ⟨tb, 0, none⟩)] ρ [[(lb, .cells ⟨[.int .u32 l]⟩ 168 (0, 0))], [(tb, .cells ⟨tabV⟩ 214 (0, 0))]]
      (fun v ρ' L' => v = .tuple ⟨[]⟩ ∧ ρ' = ρ ∧ L' = [[(lb, .cells ⟨[.int .u32 (hal l n : Nat)]⟩ 168 (0, 0))], [(tb, .cells ⟨tabV⟩ 214 (0, 0))]]) := by
  have hx : xorI (l : Int) (n : Int) = ((l ^^^ n : Nat) : Int) := by simp [xorI]
  have hxl : l ^^^ n < 4294967296 := Nat.xor_lt_two_pow (n := 32) (by omega) (by omega)
  have ha : andI ((l ^^^ n : Nat) : Int) 15 = (((l ^^^ n) &&& 15 : Nat) : Int) := by simp [andI]
  have hal' := and15 (l ^^^ n)
  have hlen := tabV_len
  have hat := tabV_at hal'
  have hv := hit_lt (x := (l ^^^ n) &&& 15) (by omega) 4
  have hd : ((l : Nat) : Int) / 2 ^ 4 = ((l / 16 : Nat) : Int) := by omega
  have hr : xorI ((l / 16 : Nat) : Int) ((hit 4 ((l ^^^ n) &&& 15) : Nat) : Int) = ((hal l n : Nat) : Int) := by
    show (((((l / 16 : Nat) : Int).toNat) ^^^ (((hit 4 ((l ^^^ n) &&& 15) : Nat) : Int)).toNat : Nat) : Int) = _
    rw [Int.toNat_natCast, Int.toNat_natCast]; rfl
  generalize (l ^^^ n) &&& 15 = i at *
  have ha2 : andI (xorI (l : Int) (n : Int)) 15 = (i : Int) := by rw [hx, ha]
  have hat2 : tabV[0 + (andI (xorI (l : Int) (n : Int)) 15).toNat * 1]? = some (.int .u32 (hit 4 i : Nat)) := by rw [ha2, Int.toNat_natCast]; exact hat
  have hxb : 0 ≤ xorI (l : Int) (n : Int) ∧ xorI (l : Int) (n : Int) < 4294967296 := by omega
  refine spec_enter Try.func155 rfl rfl rfl fun u R => ?_
  simp only [argsE, List.cons_append, List.nil_append]
  refine tc_any (Stays _ _ ([[(tb, .cells ⟨tabV⟩ 214 (0, 0))]])) (stays_of (hT := tk) (Hp.le_refl _)) ?_
  all_goals refine rMv 3 ?_
  all_goals refine rCv 4 ?_
  all_goals (refine rStep2 (i := 0) (j := 2) ?_ ?_ <;> ((try refine qWant ?_); (first | (refine i_qq ?_; refine qQ ?_) | (refine qEf ?_; try intro _)) <;> ((try simp only [List.cons_append, List.nil_append, List.append_eq]); refine tl_nil ?_; refine rNext ?_)))
  all_goals (first | refine rSr 1 ?_ | refine rXo 5 ?_)
  all_goals (first | (refine rStep (i := 2) ?_; ((try refine qWant ?_); (first | (refine i_qq ?_; refine qQ ?_) | (refine qEf ?_; try intro _)) <;> ((try simp only [List.cons_append, List.nil_append, List.append_eq]); refine tl_nil ?_; refine rNext ?_))) | refine rAn 6 ?_)
  all_goals (first | refine rXo 5 ?_ | refine rIa 7 ?_)
  all_goals (first | refine rAn 6 ?_ | refine rLd 8 ?_)
  all_goals (first | refine rIa 7 ?_ | (refine rStep (i := 0) ?_; ((try refine qWant ?_); (first | (refine i_qq ?_; refine qQ ?_) | (refine qEf ?_; try intro _)) <;> ((try simp only [List.cons_append, List.nil_append, List.append_eq]); refine tl_nil ?_; refine rNext ?_))))
  all_goals (first | refine rLd 8 ?_ | refine rSr 1 ?_)
  all_goals refine rXo 9 ?_
  all_goals (refine rStep (i := 10) ?_; ((try refine qWant ?_); (first | (refine i_qq ?_; refine qQ ?_) | (refine qEf ?_; try intro _)) <;> ((try simp only [List.cons_append, List.nil_append, List.append_eq]); refine tl_nil ?_; refine rNext ?_)))
  all_goals refine rDone ?_
  all_goals (repeat' (first | (refine i_op ?_; first | (refine i_qq ?_; refine qQ ?_) | refine qEf ?_ | refine qAn ?_ | refine qXo ?_ | refine qNt ?_) | refine tl_nil ?_ | (refine i_tc ?_; refine qTc ?_) | (refine i_te ?_; refine qTe ?_) | intro _))
  all_goals simp only [hd, hr]
  all_goals exact qE (L' := [[(lb, _)], [(tb, _)]]) ⟨rfl, rfl, rfl⟩
theorem goes_spec (ρ : Hp) (l : Nat) (hl : l < 4294967296) (a : Option Addr) (n c : Nat) (b : List UInt8) (hb : SIn ρ u8c a n b) (hbig : n ≤ 1000000) :
    Spec Try.prog 145 [.int .u32 l, .slice a n c] ρ [] (fun v ρ' L' => v = .int .u32 (goesN l b : Nat) ∧ ρ' = ρ ∧ L' = []) := by
  have hlen := hb.len
  refine spec_enter Try.func145 rfl rfl rfl fun u R => ?_
  simp only [argsE, List.cons_append, List.nil_append]
  repeat' (first | (refine tl_is (.func 154) ?_; refine qC rfl rfl (halves_spec _) ?_; rintro v ρ' L' hle ⟨rfl, rfl, rfl⟩ <;> (try simp only [List.cons_append, List.nil_append, List.append_eq])) | (refine i_op ?_; first | (refine i_qq ?_; refine qQ ?_) | refine qEf ?_ | refine qAn ?_ | refine qXo ?_ | refine qNt ?_) | refine tl_nil ?_ | (refine i_tc ?_; refine qTc ?_) | (refine i_te ?_; refine qTe ?_) | intro _)
  rename_i lb tb
  refine tc_loop_g [(2, _), (4, _), (6, _), (11, _), (12, _)] (fun (ζ : (Nat) × (Nat)) => [(13, .int .i64 ζ.1)]) (fun (ζ : (Nat) × (Nat)) => ρ') (fun (ζ : (Nat) × (Nat)) => [[(tb, .cells ⟨tabV⟩ 214 (0, 0))], [(lb, .cells ⟨[.int .u32 ζ.2]⟩ 168 (0, 0))]]) (fun (ζ : (Nat) × (Nat)) => ζ.1 ≤ n ∧ ζ.2 < 4294967296 ∧ ζ.2 = goesN l (b.take ζ.1)) (fun (ζ : (Nat) × (Nat)) => n - ζ.1) ((0, l)) (⟨Nat.zero_le _, hl, rfl⟩) ev_le ev_le rfl tk ?_
  rintro ⟨i, y⟩ hI
  try simp only [List.cons_append, List.nil_append, List.append_assoc, List.append_eq] at hI ⊢
  try dsimp only at hI ⊢
  obtain ⟨hi, hy, hgo⟩ := hI
  by_cases hlt : i < n
  · obtain ⟨bx, off, C, T, fr, rfl, hb1, hc1⟩ := hb.get (show i < b.length by omega)
    have hnx : goesN l (b.take (i + 1)) = byt y (b[i]'(by omega)) := by
      rw [hgo]; unfold goesN; rw [List.take_succ_eq_append_getElem (by omega), List.foldl_append]; rfl
    generalize b[i]'(by omega) = ch at *
    have hcl := ch.toNat_lt
    have hq1 : ch.toNat &&& 15 < 256 := by have := and15 ch.toNat; omega
    have hsh : ((ch.toNat : Nat) : Int) / 2 ^ 4 = ((ch.toNat / 16 : Nat) : Int) := by omega
    have hh := hal_lt (n := ch.toNat &&& 15) hy
    have hand : andI ((ch.toNat : Nat) : Int) 15 = ((ch.toNat &&& 15 : Nat) : Int) := by simp [andI]
    repeat' (first | (refine i_op ?_; first | (refine i_qq ?_; refine qQ ?_) | refine qEf ?_ | refine qAn ?_ | refine qXo ?_ | refine qNt ?_) | refine tl_nil ?_ | (refine i_tc ?_; refine qTc ?_) | (refine i_te ?_; refine qTe ?_) | intro _)
    simp only [hand]
    repeat' (first | (refine tl_is (.tmp 17) ?_; refine qC rfl rfl (goes1_spec _ lb tb y (ch.toNat &&& 15) hy hq1) ?_; rintro v ρ' L' hle ⟨rfl, rfl, rfl⟩ <;> (try simp only [List.cons_append, List.nil_append, List.append_eq])) | (refine tl_is (.tmp 21) ?_; refine qC rfl rfl (goes1_spec _ lb tb (hal y (ch.toNat &&& 15)) (ch.toNat / 16) hh (by omega)) ?_; rintro v ρ' L' hle ⟨rfl, rfl, rfl⟩ <;> (try simp only [List.cons_append, List.nil_append, List.append_eq])) | (refine i_op ?_; first | (refine i_qq ?_; refine qQ ?_) | refine qEf ?_ | refine qAn ?_ | refine qXo ?_ | refine qNt ?_) | refine tl_nil ?_ | (refine i_tc ?_; refine qTc ?_) | (refine i_te ?_; refine qTe ?_) | intro _)
    refine te_round_g (i + 1, byt y ch) (⟨hlt, byt_lt hy, hnx.symm⟩) ev_le ev_le rfl tk inferInstance (by first | omega | (dsimp only; omega))
  · have hin : i = n := by omega
    subst hin
    rw [List.take_of_length_le (by omega)] at hgo
    repeat' (first | (refine i_op ?_; first | (refine i_qq ?_; refine qQ ?_) | refine qEf ?_ | refine qAn ?_ | refine qXo ?_ | refine qNt ?_) | refine tl_nil ?_ | (refine i_tc ?_; refine qTc ?_) | (refine i_te ?_; refine qTe ?_) | intro _)
    rw [hgo]
    exact qE (L' := []) ⟨rfl, rfl, rfl⟩
theorem sum32_spec (ρ : Hp) (a : Option Addr) (n c : Nat) (b : List UInt8) (hb : SIn ρ u8c a n b) (hbig : n ≤ 1000000) :
    Spec Try.prog 106 [.slice a n c] ρ [] (fun v ρ' L' => v = .int .u32 (sumB b : Nat) ∧ ρ' = ρ ∧ L' = []) := by
  have hj : Spec Try.prog 137 [.int .u32 0, .slice a n c] ρ [] (fun v ρ' L' => v = .int .u32 (sumB b : Nat) ∧ ρ' = ρ ∧ L' = []) := by
    have h1 : xorI 4294967295 0 = ((4294967295 : Nat) : Int) := by simp [xorI]
    have hg := goesN_lt b (l := 4294967295) (by decide)
    have hgs := goes_spec ρ 4294967295 (by decide) a n c b hb hbig
    have h2 : xorI 4294967295 ((goesN 4294967295 b : Nat) : Int) = ((sumB b : Nat) : Int) := by
      show (((4294967295 : Int).toNat ^^^ ((goesN 4294967295 b : Nat) : Int).toNat : Nat) : Int) = _
      rw [Int.toNat_natCast]; rfl
    generalize goesN 4294967295 b = g at *
    refine spec_enter Try.func137 rfl rfl rfl fun u R => ?_
    simp only [argsE, List.cons_append, List.nil_append]
    repeat' (first | (refine i_op ?_; first | (refine i_qq ?_; refine qQ ?_) | refine qEf ?_ | refine qAn ?_ | refine qXo ?_ | refine qNt ?_) | refine tl_nil ?_ | (refine i_tc ?_; refine qTc ?_) | (refine i_te ?_; refine qTe ?_) | intro _)
    simp only [h1]
    repeat' (first | (refine tl_is (.func 145) ?_; refine qC rfl rfl (hgs) ?_; rintro v ρ' L' hle ⟨rfl, rfl, rfl⟩ <;> (try simp only [List.cons_append, List.nil_append, List.append_eq])) | (refine i_op ?_; first | (refine i_qq ?_; refine qQ ?_) | refine qEf ?_ | refine qAn ?_ | refine qXo ?_ | refine qNt ?_) | refine tl_nil ?_ | (refine i_tc ?_; refine qTc ?_) | (refine i_te ?_; refine qTe ?_) | intro _)
    rw [h2]
    exact qE (L' := []) ⟨rfl, rfl, rfl⟩
  refine spec_enter Try.func106 rfl rfl rfl fun u R => ?_
  simp only [argsE, List.cons_append, List.nil_append]
  repeat' (first | (refine tl_is (.func 137) ?_; refine qC rfl rfl (hj) ?_; rintro v ρ' L' hle ⟨rfl, rfl, rfl⟩ <;> (try simp only [List.cons_append, List.nil_append, List.append_eq])) | (refine i_op ?_; first | (refine i_qq ?_; refine qQ ?_) | refine qEf ?_ | refine qAn ?_ | refine qXo ?_ | refine qNt ?_) | refine tl_nil ?_ | (refine i_tc ?_; refine qTc ?_) | (refine i_te ?_; refine qTe ?_) | intro _)
  exact qE (L' := []) ⟨rfl, rfl, rfl⟩
end Go.Proofs.E

namespace Go.Proofs.E
open Go
set_option linter.unusedVariables false
set_option linter.unusedSimpArgs false
set_option linter.unusedSectionVars false
set_option maxRecDepth 4000
set_option maxHeartbeats 1000000
attribute [local irreducible] Yl TL TC TE Spec YSpec R1 Hp.le EnvLe TS TR YS Stays
/-! ## layer 2: the disk -/
abbrev Blk := List UInt8
abbrev Secs := List (Blk × Option Blk)
def heldC (s : Secs) : List Value := (s.map fun p => p.1.map u8c).flatten
structure SecsOk (s : Secs) : Prop where
  len : s.length ≤ 2048
  pos : 0 < s.length
  held : ∀ p ∈ s, p.1.length = 64
  cached : ∀ p ∈ s, ∀ c, p.2 = some c → c.length = 64
def bv (b : Blk) : Value := .agg ⟨b.map u8c⟩
structure MapOk (s : Secs) (es : List MapEntry) : Prop where
  keys : IntKeys .i64 es
  get : ∀ j : Int, mget es j = if 0 ≤ j then ((s[j.toNat]?).bind (·.2)).map bv else none
/-- where the held blocks lie: the block's number, the slice's capacity, what lies behind the blocks -/
structure HB where
  b : Nat
  cap : Nat
  sp : List Value
def dO (hb : HB) (mb n : Nat) (ops armed failing : Int) (dead : Bool) : Obj := .cells ⟨[.slice (some ⟨hb.b, 0, none⟩) n hb.cap, .map (some mb), .int .i64 ops, .int .i64 armed, .int .i64 failing, .bool dead]⟩ 116 (0, 0)

set_option maxHeartbeats 400000 in
theorem lives_nil (ρ : Hp) : Spec Try.prog 55 [.pointer none] ρ [] (fun v ρ' L' => v = .int .i64 1 ∧ ρ' = ρ ∧ L' = []) := by
  refine spec_enter Try.func55 rfl rfl rfl fun u R => ?_
  simp only [argsE, List.cons_append, List.nil_append]
  repeat' (first | (refine i_op ?_; first | (refine i_qq ?_; refine qQ ?_) | refine qEf ?_) | refine tl_nil ?_ | (refine i_tc ?_; refine qTc ?_) | (refine i_te ?_; refine qTe ?_) | intro _)
  exact te_end rfl rfl rfl (by exact res1 rfl (r1_tmp rfl)) (Hp.le_refl _) (by infer_instance) (by infer_instance) ⟨rfl, rfl, rfl⟩
set_option maxHeartbeats 400000 in
theorem lives_dead (ρ : Hp) (b : Nat) (hb : HB) (mb n : Nat) (ops armed failing : Int) : Spec Try.prog 55 [.pointer (some ⟨b, 0, none⟩)] ρ [[(b, dO hb mb n ops armed failing true)]] (fun v ρ' L' => v = .int .i64 9 ∧ ρ' = ρ ∧ L' = [[(b, dO hb mb n ops armed failing true)]]) := by
  refine spec_enter Try.func55 rfl rfl rfl fun u R => ?_
  simp only [argsE, List.cons_append, List.nil_append, dO]
  repeat' (first | (refine i_op ?_; first | (refine i_qq ?_; refine qQ ?_) | refine qEf ?_) | refine tl_nil ?_ | (refine i_tc ?_; refine qTc ?_) | (refine i_te ?_; refine qTe ?_) | intro _)
  exact te_end rfl rfl rfl (by exact res1 rfl (r1_tmp rfl)) (Hp.le_refl _) (by infer_instance) (by infer_instance) ⟨rfl, rfl, rfl⟩
set_option maxHeartbeats 400000 in
theorem lives_ok (ρ : Hp) (b : Nat) (hb : HB) (mb n : Nat) (ops armed failing : Int) : Spec Try.prog 55 [.pointer (some ⟨b, 0, none⟩)] ρ [[(b, dO hb mb n ops armed failing false)]] (fun v ρ' L' => v = .int .i64 0 ∧ ρ' = ρ ∧ L' = [[(b, dO hb mb n ops armed failing false)]]) := by
  refine spec_enter Try.func55 rfl rfl rfl fun u R => ?_
  simp only [argsE, List.cons_append, List.nil_append, dO]
  repeat' (first | (refine i_op ?_; first | (refine i_qq ?_; refine qQ ?_) | refine qEf ?_) | refine tl_nil ?_ | (refine i_tc ?_; refine qTc ?_) | (refine i_te ?_; refine qTe ?_) | intro _)
  exact te_end rfl rfl rfl (by exact res1 rfl (r1_tmp rfl)) (Hp.le_refl _) (by infer_instance) (by infer_instance) ⟨rfl, rfl, rfl⟩
theorem counts_dO4 (ρ : Hp) (b : Nat) (hb : HB) (mb n : Nat) (ops armed failing : Int) (dead : Bool) (h1 : -1 ≤ failing) (h2 : failing ≤ 9223372036854775807) :
    Spec Try.prog 101 [.pointer (some ⟨b, 4, none⟩)] ρ [[(b, dO hb mb n ops armed failing dead)]] (fun v ρ' L' => v = .bool (failing == 0) ∧ ρ' = ρ ∧ L' = [[(b, dO hb mb n ops armed (max (failing-1) (-1)) dead)]]) := by
  refine spec_enter Try.func101 rfl rfl rfl fun u R => ?_
  simp only [argsE, List.cons_append, List.nil_append, dO]
  repeat' (first | (refine i_op ?_; first | (refine i_qq ?_; refine qQ ?_) | refine qEf ?_) | refine tl_nil ?_ | (refine i_tc ?_; refine qTc ?_) | (refine i_te ?_; refine qTe ?_) | intro _)
  exact qE ⟨rfl, rfl, rfl⟩
theorem counts_dO3 (ρ : Hp) (b : Nat) (hb : HB) (mb n : Nat) (ops armed failing : Int) (dead : Bool) (h1 : -1 ≤ armed) (h2 : armed ≤ 9223372036854775807) :
    Spec Try.prog 101 [.pointer (some ⟨b, 3, none⟩)] ρ [[(b, dO hb mb n ops armed failing dead)]] (fun v ρ' L' => v = .bool (armed == 0) ∧ ρ' = ρ ∧ L' = [[(b, dO hb mb n ops (max (armed-1) (-1)) failing dead)]]) := by
  refine spec_enter Try.func101 rfl rfl rfl fun u R => ?_
  simp only [argsE, List.cons_append, List.nil_append, dO]
  repeat' (first | (refine i_op ?_; first | (refine i_qq ?_; refine qQ ?_) | refine qEf ?_) | refine tl_nil ?_ | (refine i_tc ?_; refine qTc ?_) | (refine i_te ?_; refine qTe ?_) | intro _)
  exact qE ⟨rfl, rfl, rfl⟩

/-! ### does -/
theorem does_dead (ρ : Hp) (b : Nat) (hb : HB) (mb n : Nat) (ops armed failing i : Int) (d l : Value) : Spec Try.prog 67 [.pointer (some ⟨b, 0, none⟩), .int .i64 i, d, l] ρ [[(b, dO hb mb n ops armed failing true)]]
    (fun v ρ' L' => v = .int .i64 9 ∧ ρ' = ρ ∧ L' = [[(b, dO hb mb n ops armed failing true)]]) := by
  refine spec_enter Try.func67 rfl rfl rfl fun u R => ?_
  simp only [argsE, List.cons_append, List.nil_append]
  repeat' (first | (refine tl_is (.func 55) ?_; refine qC rfl rfl (lives_dead _ _ _ _ _ _ _ _) ?_; rintro v ρ' L' hle ⟨rfl, rfl, rfl⟩ <;> (try simp only [List.cons_append, List.nil_append, List.append_eq])) | (refine i_op ?_; first | (refine i_qq ?_; refine qQ ?_) | refine qEf ?_) | refine tl_nil ?_ | (refine i_tc ?_; refine qTc ?_) | (refine i_te ?_; refine qTe ?_) | intro _)
  exact qE ⟨rfl, rfl, rfl⟩
theorem does_nil (ρ : Hp) (i : Int) (d l : Value) : Spec Try.prog 67 [.pointer none, .int .i64 i, d, l] ρ [] (fun v ρ' L' => v = .int .i64 1 ∧ ρ' = ρ ∧ L' = []) := by
  refine spec_enter Try.func67 rfl rfl rfl fun u R => ?_
  simp only [argsE, List.cons_append, List.nil_append]
  repeat' (first | (refine tl_is (.func 55) ?_; refine qC rfl rfl (lives_nil _) ?_; rintro v ρ' L' hle ⟨rfl, rfl, rfl⟩ <;> (try simp only [List.cons_append, List.nil_append, List.append_eq])) | (refine i_op ?_; first | (refine i_qq ?_; refine qQ ?_) | refine qEf ?_) | refine tl_nil ?_ | (refine i_tc ?_; refine qTc ?_) | (refine i_te ?_; refine qTe ?_) | intro _)
  exact qE ⟨rfl, rfl, rfl⟩
theorem does_arg (ρ : Hp) (b : Nat) (hb : HB) (mb n : Nat) (ops armed failing i : Int) (d l : Value) (hi : i < 0 ∨ (n : Int) ≤ i) : Spec Try.prog 67 [.pointer (some ⟨b, 0, none⟩), .int .i64 i, d, l] ρ [[(b, dO hb mb n ops armed failing false)]]
    (fun v ρ' L' => v = .int .i64 2 ∧ ρ' = ρ ∧ L' = [[(b, dO hb mb n ops armed failing false)]]) := by
  refine spec_enter Try.func67 rfl rfl rfl fun u R => ?_
  simp only [argsE, List.cons_append, List.nil_append]
  by_cases h0 : i < 0
  · repeat' (first | (refine tl_is (.func 55) ?_; refine qC rfl rfl (lives_ok _ _ _ _ _ _ _ _) ?_; rintro v ρ' L' hle ⟨rfl, rfl, rfl⟩ <;> (try simp only [List.cons_append, List.nil_append, List.append_eq, dO])) | (refine i_op ?_; first | (refine i_qq ?_; refine qQ ?_) | refine qEf ?_) | refine tl_nil ?_ | (refine i_tc ?_; refine qTc ?_) | (refine i_te ?_; refine qTe ?_) | intro _)
    exact qE ⟨rfl, rfl, rfl⟩
  · repeat' (first | (refine tl_is (.func 55) ?_; refine qC rfl rfl (lives_ok _ _ _ _ _ _ _ _) ?_; rintro v ρ' L' hle ⟨rfl, rfl, rfl⟩ <;> (try simp only [List.cons_append, List.nil_append, List.append_eq, dO])) | (refine i_op ?_; first | (refine i_qq ?_; refine qQ ?_) | refine qEf ?_) | refine tl_nil ?_ | (refine i_tc ?_; refine qTc ?_) | (refine i_te ?_; refine qTe ?_) | intro _)
    exact qE ⟨rfl, rfl, rfl⟩
theorem does_ok_r (ρ : Hp) (b : Nat) (hb : HB) (mb n : Nat) (ops armed failing i : Int) (kd : Nat) (cd : List Value) (X : SH) (Post : Value → Hp → SH → Prop) (h0 : 0 ≤ i) (h1 : i < n) (hf : failing ≠ 0) (hf1 : -1 ≤ failing) (hf2 : failing ≤ 9223372036854775807) [hF : Fun Try.prog kd]
    (hd : Spec Try.prog kd cd ρ ([(b, dO hb mb n (IntKind.i64.wrap (ops + 1)) armed (max (failing - 1) (-1)) false)] :: X) Post) :
    Spec Try.prog 67 [.pointer (some ⟨b, 0, none⟩), .int .i64 i, .func (.func kd) ⟨[]⟩ ⟨cd⟩, .nilFunc] ρ ([(b, dO hb mb n ops armed failing false)] :: X) (fun v ρ' L' => v = .int .i64 0 ∧ ∃ v0, Post v0 ρ' L') := by
  refine spec_enter Try.func67 rfl rfl rfl fun u R => ?_
  simp only [argsE, List.cons_append, List.nil_append]
  repeat' (first | (refine tl_is (.func 55) ?_; refine qC rfl rfl (lives_ok _ _ _ _ _ _ _ _) ?_; rintro v ρ' L' hle ⟨rfl, rfl, rfl⟩ <;> (try simp only [List.cons_append, List.nil_append, List.append_eq, dO])) | (refine i_op ?_; first | (refine i_qq ?_; refine qQ ?_) | refine qEf ?_) | refine tl_nil ?_ | (refine i_tc ?_; refine qTc ?_) | (refine i_te ?_; refine qTe ?_) | intro _)
  have hfb : (failing == 0) = false := by simpa using hf
  refine tc_any (Stays _ _ ([])) (stays_of (hT := tk) (Hp.le_refl _)) ?_
  all_goals refine rMv 0 ?_
  all_goals refine rNc 1 ?_
  all_goals refine rFa 2 ?_
  all_goals refine rMv 4 ?_
  all_goals refine rCm 5 ?_
  all_goals (refine rStep (i := 3) ?_; ((try refine qWant ?_); (first | (refine tl_is (.func 101) ?_; refine qC rfl rfl (counts_dO4 _ _ _ _ _ _ _ _ _ hf1 hf2) ?_; rintro v ρ' L' hle ⟨rfl, rfl, rfl⟩ <;> (try simp only [List.cons_append, List.nil_append, List.append_eq, dO, hfb])) | (refine qEf ?_; try intro _)) <;> ((try simp only [List.cons_append, List.nil_append, List.append_eq]); refine tl_nil ?_; refine rNext ?_)))
  all_goals refine rFull ?_
  all_goals refine rMv 6 ?_
  all_goals (first | refine wSkip 7 ?_ | refine wSkipU 7 ?_ | refine wMv 7 ?_ | (refine tr_guard (t := 41) rfl (fun hb => ?_) (fun hb => ?_) <;> (try simp only [decide_eq_true_eq, decide_eq_false_iff_not, Bool.not_eq_true, Bool.not_eq_false, beq_iff_eq, bne_iff_ne, ne_eq, Bool.not_eq_eq_eq_not, Bool.not_true, Bool.not_false, beq_eq_false_iff_ne, bne_eq_false_iff_eq] at hb) <;> first | refine wSkip 7 ?_ | refine wSkipU 7 ?_ | refine wMv 7 ?_))
  all_goals (first | refine wSkip 8 ?_ | refine wSkipU 8 ?_ | refine wNc 8 ?_ | (refine tr_guard (t := 41) rfl (fun hb => ?_) (fun hb => ?_) <;> (try simp only [decide_eq_true_eq, decide_eq_false_iff_not, Bool.not_eq_true, Bool.not_eq_false, beq_iff_eq, bne_iff_ne, ne_eq, Bool.not_eq_eq_eq_not, Bool.not_true, Bool.not_false, beq_eq_false_iff_ne, bne_eq_false_iff_eq] at hb) <;> first | refine wSkip 8 ?_ | refine wSkipU 8 ?_ | refine wNc 8 ?_))
  all_goals (first | refine wSkip 9 ?_ | refine wSkipU 9 ?_ | refine wFa 9 ?_ | (refine tr_guard (t := 41) rfl (fun hb => ?_) (fun hb => ?_) <;> (try simp only [decide_eq_true_eq, decide_eq_false_iff_not, Bool.not_eq_true, Bool.not_eq_false, beq_iff_eq, bne_iff_ne, ne_eq, Bool.not_eq_eq_eq_not, Bool.not_true, Bool.not_false, beq_eq_false_iff_ne, bne_eq_false_iff_eq] at hb) <;> first | refine wSkip 9 ?_ | refine wSkipU 9 ?_ | refine wFa 9 ?_))
  all_goals (first | refine wSkip 10 ?_ | refine wSkipU 10 ?_ | refine wLd 10 ?_ | (refine tr_guard (t := 41) rfl (fun hb => ?_) (fun hb => ?_) <;> (try simp only [decide_eq_true_eq, decide_eq_false_iff_not, Bool.not_eq_true, Bool.not_eq_false, beq_iff_eq, bne_iff_ne, ne_eq, Bool.not_eq_eq_eq_not, Bool.not_true, Bool.not_false, beq_eq_false_iff_ne, bne_eq_false_iff_eq] at hb) <;> first | refine wSkip 10 ?_ | refine wSkipU 10 ?_ | refine wLd 10 ?_))
  all_goals (first | refine wSkip 11 ?_ | refine wSkipU 11 ?_ | refine wCm 11 ?_ | (refine tr_guard (t := 41) rfl (fun hb => ?_) (fun hb => ?_) <;> (try simp only [decide_eq_true_eq, decide_eq_false_iff_not, Bool.not_eq_true, Bool.not_eq_false, beq_iff_eq, bne_iff_ne, ne_eq, Bool.not_eq_eq_eq_not, Bool.not_true, Bool.not_false, beq_eq_false_iff_ne, bne_eq_false_iff_eq] at hb) <;> first | refine wSkip 11 ?_ | refine wSkipU 11 ?_ | refine wCm 11 ?_))
  all_goals refine rPk 12 ?_
  all_goals refine rAs 13 ?_
  all_goals refine rAs 14 ?_
  all_goals refine rDone ?_
  unfold dO at hd
  repeat' (first | (refine tl_is (.tmp 65) ?_; refine tl_call rfl rfl hd tk rfl ?_; rintro v ρ' L' hle hp) | (refine i_op ?_; first | (refine i_qq ?_; refine qQ ?_) | refine qEf ?_) | refine tl_nil ?_ | (refine i_tc ?_; refine qTc ?_) | (refine i_te ?_; refine qTe ?_) | intro _)
  exact qE ⟨rfl, _, hp⟩
theorem does_ok_w (ρ : Hp) (b : Nat) (hb : HB) (mb n : Nat) (ops armed failing i : Int) (kd kl : Nat) (cd cl : List Value) (X : SH) (Post : Value → Hp → SH → Prop) (h0 : 0 ≤ i) (h1 : i < n) (hf : failing ≠ 0) (hf1 : -1 ≤ failing) (hf2 : failing ≤ 9223372036854775807)
    (ha : armed ≠ 0) (ha1 : -1 ≤ armed) (ha2 : armed ≤ 9223372036854775807) [hF : Fun Try.prog kd]
    (hd : Spec Try.prog kd cd ρ ([(b, dO hb mb n (IntKind.i64.wrap (ops + 1)) (max (armed - 1) (-1)) (max (failing - 1) (-1)) false)] :: X) Post) :
    Spec Try.prog 67 [.pointer (some ⟨b, 0, none⟩), .int .i64 i, .func (.func kd) ⟨[]⟩ ⟨cd⟩, .func (.func kl) ⟨[]⟩ ⟨cl⟩] ρ ([(b, dO hb mb n ops armed failing false)] :: X) (fun v ρ' L' => v = .int .i64 0 ∧ ∃ v0, Post v0 ρ' L') := by
  refine spec_enter Try.func67 rfl rfl rfl fun u R => ?_
  simp only [argsE, List.cons_append, List.nil_append]
  repeat' (first | (refine tl_is (.func 55) ?_; refine qC rfl rfl (lives_ok _ _ _ _ _ _ _ _) ?_; rintro v ρ' L' hle ⟨rfl, rfl, rfl⟩ <;> (try simp only [List.cons_append, List.nil_append, List.append_eq, dO])) | (refine i_op ?_; first | (refine i_qq ?_; refine qQ ?_) | refine qEf ?_) | refine tl_nil ?_ | (refine i_tc ?_; refine qTc ?_) | (refine i_te ?_; refine qTe ?_) | intro _)
  have hfb : (failing == 0) = false := by simpa using hf
  refine tc_any (Stays _ _ ([])) (stays_of (hT := tk) (Hp.le_refl _)) ?_
  all_goals refine rMv 0 ?_
  all_goals refine rNc 1 ?_
  all_goals refine rFa 2 ?_
  all_goals refine rMv 4 ?_
  all_goals refine rCm 5 ?_
  all_goals (refine rStep (i := 3) ?_; ((try refine qWant ?_); (first | (refine tl_is (.func 101) ?_; refine qC rfl rfl (counts_dO4 _ _ _ _ _ _ _ _ _ hf1 hf2) ?_; rintro v ρ' L' hle ⟨rfl, rfl, rfl⟩ <;> (try simp only [List.cons_append, List.nil_append, List.append_eq, dO, hfb])) | (refine qEf ?_; try intro _)) <;> ((try simp only [List.cons_append, List.nil_append, List.append_eq]); refine tl_nil ?_; refine rNext ?_)))
  all_goals refine rFull ?_
  all_goals refine rMv 6 ?_
  all_goals (first | refine wSkip 7 ?_ | refine wSkipU 7 ?_ | refine wMv 7 ?_ | (refine tr_guard (t := 41) rfl (fun hb => ?_) (fun hb => ?_) <;> (try simp only [decide_eq_true_eq, decide_eq_false_iff_not, Bool.not_eq_true, Bool.not_eq_false, beq_iff_eq, bne_iff_ne, ne_eq, Bool.not_eq_eq_eq_not, Bool.not_true, Bool.not_false, beq_eq_false_iff_ne, bne_eq_false_iff_eq] at hb) <;> first | refine wSkip 7 ?_ | refine wSkipU 7 ?_ | refine wMv 7 ?_))
  all_goals (first | refine wSkip 8 ?_ | refine wSkipU 8 ?_ | refine wNc 8 ?_ | (refine tr_guard (t := 41) rfl (fun hb => ?_) (fun hb => ?_) <;> (try simp only [decide_eq_true_eq, decide_eq_false_iff_not, Bool.not_eq_true, Bool.not_eq_false, beq_iff_eq, bne_iff_ne, ne_eq, Bool.not_eq_eq_eq_not, Bool.not_true, Bool.not_false, beq_eq_false_iff_ne, bne_eq_false_iff_eq] at hb) <;> first | refine wSkip 8 ?_ | refine wSkipU 8 ?_ | refine wNc 8 ?_))
  all_goals (first | refine wSkip 9 ?_ | refine wSkipU 9 ?_ | refine wFa 9 ?_ | (refine tr_guard (t := 41) rfl (fun hb => ?_) (fun hb => ?_) <;> (try simp only [decide_eq_true_eq, decide_eq_false_iff_not, Bool.not_eq_true, Bool.not_eq_false, beq_iff_eq, bne_iff_ne, ne_eq, Bool.not_eq_eq_eq_not, Bool.not_true, Bool.not_false, beq_eq_false_iff_ne, bne_eq_false_iff_eq] at hb) <;> first | refine wSkip 9 ?_ | refine wSkipU 9 ?_ | refine wFa 9 ?_))
  all_goals (first | refine wSkip 10 ?_ | refine wSkipU 10 ?_ | refine wLd 10 ?_ | (refine tr_guard (t := 41) rfl (fun hb => ?_) (fun hb => ?_) <;> (try simp only [decide_eq_true_eq, decide_eq_false_iff_not, Bool.not_eq_true, Bool.not_eq_false, beq_iff_eq, bne_iff_ne, ne_eq, Bool.not_eq_eq_eq_not, Bool.not_true, Bool.not_false, beq_eq_false_iff_ne, bne_eq_false_iff_eq] at hb) <;> first | refine wSkip 10 ?_ | refine wSkipU 10 ?_ | refine wLd 10 ?_))
  all_goals (first | refine wSkip 11 ?_ | refine wSkipU 11 ?_ | refine wCm 11 ?_ | (refine tr_guard (t := 41) rfl (fun hb => ?_) (fun hb => ?_) <;> (try simp only [decide_eq_true_eq, decide_eq_false_iff_not, Bool.not_eq_true, Bool.not_eq_false, beq_iff_eq, bne_iff_ne, ne_eq, Bool.not_eq_eq_eq_not, Bool.not_true, Bool.not_false, beq_eq_false_iff_ne, bne_eq_false_iff_eq] at hb) <;> first | refine wSkip 11 ?_ | refine wSkipU 11 ?_ | refine wCm 11 ?_))
  all_goals refine rPk 12 ?_
  all_goals refine rAs 13 ?_
  all_goals refine rAs 14 ?_
  all_goals refine rDone ?_
  unfold dO at hd
  repeat' (first | (refine tl_is (.func 101) ?_; refine qC rfl rfl (counts_dO3 _ _ _ _ _ _ _ _ _ ha1 ha2) ?_; rintro v ρ' L' hle ⟨rfl, rfl, rfl⟩ <;> (try simp only [List.cons_append, List.nil_append, List.append_eq, dO])) | (refine tl_is (.tmp 65) ?_; refine tl_call rfl rfl hd tk rfl ?_; rintro v ρ' L' hle hp) | (refine i_op ?_; first | (refine i_qq ?_; refine qQ ?_) | refine qEf ?_) | refine tl_nil ?_ | (refine i_tc ?_; refine qTc ?_) | (refine i_te ?_; refine qTe ?_) | intro _)
  exact qE ⟨rfl, _, hp⟩
theorem does_fail_r (ρ : Hp) (b : Nat) (hb : HB) (mb n : Nat) (ops armed i : Int) (d : Value) (h0 : 0 ≤ i) (h1 : i < n) :
    Spec Try.prog 67 [.pointer (some ⟨b, 0, none⟩), .int .i64 i, d, .nilFunc] ρ [[(b, dO hb mb n ops armed 0 false)]] (fun v ρ' L' => v = .int .i64 8 ∧ ρ' = ρ ∧ L' = [[(b, dO hb mb n (IntKind.i64.wrap (ops + 1)) armed (-1) false)]]) := by
  refine spec_enter Try.func67 rfl rfl rfl fun u R => ?_
  simp only [argsE, List.cons_append, List.nil_append]
  repeat' (first | (refine tl_is (.func 55) ?_; refine qC rfl rfl (lives_ok _ _ _ _ _ _ _ _) ?_; rintro v ρ' L' hle ⟨rfl, rfl, rfl⟩ <;> (try simp only [List.cons_append, List.nil_append, List.append_eq, dO])) | (refine i_op ?_; first | (refine i_qq ?_; refine qQ ?_) | refine qEf ?_) | refine tl_nil ?_ | (refine i_tc ?_; refine qTc ?_) | (refine i_te ?_; refine qTe ?_) | intro _)
  refine tc_any (Stays _ _ ([])) (stays_of (hT := tk) (Hp.le_refl _)) ?_
  all_goals refine rMv 0 ?_
  all_goals refine rNc 1 ?_
  all_goals refine rFa 2 ?_
  all_goals refine rMv 4 ?_
  all_goals refine rCm 5 ?_
  all_goals (refine rStep (i := 3) ?_; ((try refine qWant ?_); (first | (refine tl_is (.func 101) ?_; refine qC rfl rfl (counts_dO4 _ _ _ _ _ _ _ 0 _ (by decide) (by decide)) ?_; rintro v ρ' L' hle ⟨rfl, rfl, rfl⟩ <;> (try simp only [List.cons_append, List.nil_append, List.append_eq, dO])) | (refine qEf ?_; try intro _)) <;> ((try simp only [List.cons_append, List.nil_append, List.append_eq]); refine tl_nil ?_; refine rNext ?_)))
  all_goals refine rFull ?_
  all_goals refine rMv 6 ?_
  all_goals (first | refine wSkip 7 ?_ | refine wSkipU 7 ?_ | refine wMv 7 ?_ | (refine tr_guard (t := 41) rfl (fun hb => ?_) (fun hb => ?_) <;> (try simp only [decide_eq_true_eq, decide_eq_false_iff_not, Bool.not_eq_true, Bool.not_eq_false, beq_iff_eq, bne_iff_ne, ne_eq, Bool.not_eq_eq_eq_not, Bool.not_true, Bool.not_false, beq_eq_false_iff_ne, bne_eq_false_iff_eq] at hb) <;> first | refine wSkip 7 ?_ | refine wSkipU 7 ?_ | refine wMv 7 ?_))
  all_goals (first | refine wSkip 8 ?_ | refine wSkipU 8 ?_ | refine wNc 8 ?_ | (refine tr_guard (t := 41) rfl (fun hb => ?_) (fun hb => ?_) <;> (try simp only [decide_eq_true_eq, decide_eq_false_iff_not, Bool.not_eq_true, Bool.not_eq_false, beq_iff_eq, bne_iff_ne, ne_eq, Bool.not_eq_eq_eq_not, Bool.not_true, Bool.not_false, beq_eq_false_iff_ne, bne_eq_false_iff_eq] at hb) <;> first | refine wSkip 8 ?_ | refine wSkipU 8 ?_ | refine wNc 8 ?_))
  all_goals (first | refine wSkip 9 ?_ | refine wSkipU 9 ?_ | refine wFa 9 ?_ | (refine tr_guard (t := 41) rfl (fun hb => ?_) (fun hb => ?_) <;> (try simp only [decide_eq_true_eq, decide_eq_false_iff_not, Bool.not_eq_true, Bool.not_eq_false, beq_iff_eq, bne_iff_ne, ne_eq, Bool.not_eq_eq_eq_not, Bool.not_true, Bool.not_false, beq_eq_false_iff_ne, bne_eq_false_iff_eq] at hb) <;> first | refine wSkip 9 ?_ | refine wSkipU 9 ?_ | refine wFa 9 ?_))
  all_goals (first | refine wSkip 10 ?_ | refine wSkipU 10 ?_ | refine wLd 10 ?_ | (refine tr_guard (t := 41) rfl (fun hb => ?_) (fun hb => ?_) <;> (try simp only [decide_eq_true_eq, decide_eq_false_iff_not, Bool.not_eq_true, Bool.not_eq_false, beq_iff_eq, bne_iff_ne, ne_eq, Bool.not_eq_eq_eq_not, Bool.not_true, Bool.not_false, beq_eq_false_iff_ne, bne_eq_false_iff_eq] at hb) <;> first | refine wSkip 10 ?_ | refine wSkipU 10 ?_ | refine wLd 10 ?_))
  all_goals (first | refine wSkip 11 ?_ | refine wSkipU 11 ?_ | refine wCm 11 ?_ | (refine tr_guard (t := 41) rfl (fun hb => ?_) (fun hb => ?_) <;> (try simp only [decide_eq_true_eq, decide_eq_false_iff_not, Bool.not_eq_true, Bool.not_eq_false, beq_iff_eq, bne_iff_ne, ne_eq, Bool.not_eq_eq_eq_not, Bool.not_true, Bool.not_false, beq_eq_false_iff_ne, bne_eq_false_iff_eq] at hb) <;> first | refine wSkip 11 ?_ | refine wSkipU 11 ?_ | refine wCm 11 ?_))
  all_goals refine rPk 12 ?_
  all_goals refine rAs 13 ?_
  all_goals refine rAs 14 ?_
  all_goals refine rDone ?_
  repeat' (first | (refine i_op ?_; first | (refine i_qq ?_; refine qQ ?_) | refine qEf ?_) | refine tl_nil ?_ | (refine i_tc ?_; refine qTc ?_) | (refine i_te ?_; refine qTe ?_) | intro _)
  exact qE ⟨rfl, rfl, rfl⟩
theorem does_fail_w (ρ : Hp) (b : Nat) (hb : HB) (mb n : Nat) (ops armed i : Int) (d : Value) (kl : Nat) (cl : List Value) (h0 : 0 ≤ i) (h1 : i < n) (ha : armed ≠ 0) :
    Spec Try.prog 67 [.pointer (some ⟨b, 0, none⟩), .int .i64 i, d, .func (.func kl) ⟨[]⟩ ⟨cl⟩] ρ [[(b, dO hb mb n ops armed 0 false)]] (fun v ρ' L' => v = .int .i64 8 ∧ ρ' = ρ ∧ L' = [[(b, dO hb mb n (IntKind.i64.wrap (ops + 1)) armed (-1) false)]]) := by
  refine spec_enter Try.func67 rfl rfl rfl fun u R => ?_
  simp only [argsE, List.cons_append, List.nil_append]
  repeat' (first | (refine tl_is (.func 55) ?_; refine qC rfl rfl (lives_ok _ _ _ _ _ _ _ _) ?_; rintro v ρ' L' hle ⟨rfl, rfl, rfl⟩ <;> (try simp only [List.cons_append, List.nil_append, List.append_eq, dO])) | (refine i_op ?_; first | (refine i_qq ?_; refine qQ ?_) | refine qEf ?_) | refine tl_nil ?_ | (refine i_tc ?_; refine qTc ?_) | (refine i_te ?_; refine qTe ?_) | intro _)
  refine tc_any (Stays _ _ ([])) (stays_of (hT := tk) (Hp.le_refl _)) ?_
  all_goals refine rMv 0 ?_
  all_goals refine rNc 1 ?_
  all_goals refine rFa 2 ?_
  all_goals refine rMv 4 ?_
  all_goals refine rCm 5 ?_
  all_goals (refine rStep (i := 3) ?_; ((try refine qWant ?_); (first | (refine tl_is (.func 101) ?_; refine qC rfl rfl (counts_dO4 _ _ _ _ _ _ _ 0 _ (by decide) (by decide)) ?_; rintro v ρ' L' hle ⟨rfl, rfl, rfl⟩ <;> (try simp only [List.cons_append, List.nil_append, List.append_eq, dO])) | (refine qEf ?_; try intro _)) <;> ((try simp only [List.cons_append, List.nil_append, List.append_eq]); refine tl_nil ?_; refine rNext ?_)))
  all_goals refine rFull ?_
  all_goals refine rMv 6 ?_
  all_goals (first | refine wSkip 7 ?_ | refine wSkipU 7 ?_ | refine wMv 7 ?_ | (refine tr_guard (t := 41) rfl (fun hb => ?_) (fun hb => ?_) <;> (try simp only [decide_eq_true_eq, decide_eq_false_iff_not, Bool.not_eq_true, Bool.not_eq_false, beq_iff_eq, bne_iff_ne, ne_eq, Bool.not_eq_eq_eq_not, Bool.not_true, Bool.not_false, beq_eq_false_iff_ne, bne_eq_false_iff_eq] at hb) <;> first | refine wSkip 7 ?_ | refine wSkipU 7 ?_ | refine wMv 7 ?_))
  all_goals (first | refine wSkip 8 ?_ | refine wSkipU 8 ?_ | refine wNc 8 ?_ | (refine tr_guard (t := 41) rfl (fun hb => ?_) (fun hb => ?_) <;> (try simp only [decide_eq_true_eq, decide_eq_false_iff_not, Bool.not_eq_true, Bool.not_eq_false, beq_iff_eq, bne_iff_ne, ne_eq, Bool.not_eq_eq_eq_not, Bool.not_true, Bool.not_false, beq_eq_false_iff_ne, bne_eq_false_iff_eq] at hb) <;> first | refine wSkip 8 ?_ | refine wSkipU 8 ?_ | refine wNc 8 ?_))
  all_goals (first | refine wSkip 9 ?_ | refine wSkipU 9 ?_ | refine wFa 9 ?_ | (refine tr_guard (t := 41) rfl (fun hb => ?_) (fun hb => ?_) <;> (try simp only [decide_eq_true_eq, decide_eq_false_iff_not, Bool.not_eq_true, Bool.not_eq_false, beq_iff_eq, bne_iff_ne, ne_eq, Bool.not_eq_eq_eq_not, Bool.not_true, Bool.not_false, beq_eq_false_iff_ne, bne_eq_false_iff_eq] at hb) <;> first | refine wSkip 9 ?_ | refine wSkipU 9 ?_ | refine wFa 9 ?_))
  all_goals (first | refine wSkip 10 ?_ | refine wSkipU 10 ?_ | refine wLd 10 ?_ | (refine tr_guard (t := 41) rfl (fun hb => ?_) (fun hb => ?_) <;> (try simp only [decide_eq_true_eq, decide_eq_false_iff_not, Bool.not_eq_true, Bool.not_eq_false, beq_iff_eq, bne_iff_ne, ne_eq, Bool.not_eq_eq_eq_not, Bool.not_true, Bool.not_false, beq_eq_false_iff_ne, bne_eq_false_iff_eq] at hb) <;> first | refine wSkip 10 ?_ | refine wSkipU 10 ?_ | refine wLd 10 ?_))
  all_goals (first | refine wSkip 11 ?_ | refine wSkipU 11 ?_ | refine wCm 11 ?_ | (refine tr_guard (t := 41) rfl (fun hb => ?_) (fun hb => ?_) <;> (try simp only [decide_eq_true_eq, decide_eq_false_iff_not, Bool.not_eq_true, Bool.not_eq_false, beq_iff_eq, bne_iff_ne, ne_eq, Bool.not_eq_eq_eq_not, Bool.not_true, Bool.not_false, beq_eq_false_iff_ne, bne_eq_false_iff_eq] at hb) <;> first | refine wSkip 11 ?_ | refine wSkipU 11 ?_ | refine wCm 11 ?_))
  all_goals refine rPk 12 ?_
  all_goals refine rAs 13 ?_
  all_goals refine rAs 14 ?_
  all_goals refine rDone ?_
  repeat' (first | (refine i_op ?_; first | (refine i_qq ?_; refine qQ ?_) | refine qEf ?_) | refine tl_nil ?_ | (refine i_tc ?_; refine qTc ?_) | (refine i_te ?_; refine qTe ?_) | intro _)
  exact qE ⟨rfl, rfl, rfl⟩
theorem does_dies (ρ : Hp) (b : Nat) (hb : HB) (mb n : Nat) (ops failing i : Int) (d : Value) (kl : Nat) (cl : List Value) (X : SH) (Post : Value → Hp → SH → Prop) (h0 : 0 ≤ i) (h1 : i < n) (hf1 : -1 ≤ failing) (hf2 : failing ≤ 9223372036854775807) [hF : Fun Try.prog kl]
    (hd : Spec Try.prog kl cl ρ ([(b, dO hb mb n (IntKind.i64.wrap (ops + 1)) 0 (max (failing - 1) (-1)) true)] :: X) Post) :
    Spec Try.prog 67 [.pointer (some ⟨b, 0, none⟩), .int .i64 i, d, .func (.func kl) ⟨[]⟩ ⟨cl⟩] ρ ([(b, dO hb mb n ops 0 failing false)] :: X) (fun v ρ' L' => v = .int .i64 9 ∧ ∃ v0, Post v0 ρ' L') := by
  refine spec_enter Try.func67 rfl rfl rfl fun u R => ?_
  simp only [argsE, List.cons_append, List.nil_append]
  repeat' (first | (refine tl_is (.func 55) ?_; refine qC rfl rfl (lives_ok _ _ _ _ _ _ _ _) ?_; rintro v ρ' L' hle ⟨rfl, rfl, rfl⟩ <;> (try simp only [List.cons_append, List.nil_append, List.append_eq, dO])) | (refine i_op ?_; first | (refine i_qq ?_; refine qQ ?_) | refine qEf ?_) | refine tl_nil ?_ | (refine i_tc ?_; refine qTc ?_) | (refine i_te ?_; refine qTe ?_) | intro _)
  refine tc_any (Stays _ _ ([])) (stays_of (hT := tk) (Hp.le_refl _)) ?_
  all_goals refine rMv 0 ?_
  all_goals refine rNc 1 ?_
  all_goals refine rFa 2 ?_
  all_goals refine rMv 4 ?_
  all_goals refine rCm 5 ?_
  all_goals (refine rStep (i := 3) ?_; ((try refine qWant ?_); (first | (refine tl_is (.func 101) ?_; refine qC rfl rfl (counts_dO4 _ _ _ _ _ _ _ _ _ hf1 hf2) ?_; rintro v ρ' L' hle ⟨rfl, rfl, rfl⟩ <;> (try simp only [List.cons_append, List.nil_append, List.append_eq, dO])) | (refine qEf ?_; try intro _)) <;> ((try simp only [List.cons_append, List.nil_append, List.append_eq]); refine tl_nil ?_; refine rNext ?_)))
  all_goals refine rFull ?_
  all_goals refine rMv 6 ?_
  all_goals (first | refine wSkip 7 ?_ | refine wSkipU 7 ?_ | refine wMv 7 ?_ | (refine tr_guard (t := 41) rfl (fun hb => ?_) (fun hb => ?_) <;> (try simp only [decide_eq_true_eq, decide_eq_false_iff_not, Bool.not_eq_true, Bool.not_eq_false, beq_iff_eq, bne_iff_ne, ne_eq, Bool.not_eq_eq_eq_not, Bool.not_true, Bool.not_false, beq_eq_false_iff_ne, bne_eq_false_iff_eq] at hb) <;> first | refine wSkip 7 ?_ | refine wSkipU 7 ?_ | refine wMv 7 ?_))
  all_goals (first | refine wSkip 8 ?_ | refine wSkipU 8 ?_ | refine wNc 8 ?_ | (refine tr_guard (t := 41) rfl (fun hb => ?_) (fun hb => ?_) <;> (try simp only [decide_eq_true_eq, decide_eq_false_iff_not, Bool.not_eq_true, Bool.not_eq_false, beq_iff_eq, bne_iff_ne, ne_eq, Bool.not_eq_eq_eq_not, Bool.not_true, Bool.not_false, beq_eq_false_iff_ne, bne_eq_false_iff_eq] at hb) <;> first | refine wSkip 8 ?_ | refine wSkipU 8 ?_ | refine wNc 8 ?_))
  all_goals (first | refine wSkip 9 ?_ | refine wSkipU 9 ?_ | refine wFa 9 ?_ | (refine tr_guard (t := 41) rfl (fun hb => ?_) (fun hb => ?_) <;> (try simp only [decide_eq_true_eq, decide_eq_false_iff_not, Bool.not_eq_true, Bool.not_eq_false, beq_iff_eq, bne_iff_ne, ne_eq, Bool.not_eq_eq_eq_not, Bool.not_true, Bool.not_false, beq_eq_false_iff_ne, bne_eq_false_iff_eq] at hb) <;> first | refine wSkip 9 ?_ | refine wSkipU 9 ?_ | refine wFa 9 ?_))
  all_goals (first | refine wSkip 10 ?_ | refine wSkipU 10 ?_ | refine wLd 10 ?_ | (refine tr_guard (t := 41) rfl (fun hb => ?_) (fun hb => ?_) <;> (try simp only [decide_eq_true_eq, decide_eq_false_iff_not, Bool.not_eq_true, Bool.not_eq_false, beq_iff_eq, bne_iff_ne, ne_eq, Bool.not_eq_eq_eq_not, Bool.not_true, Bool.not_false, beq_eq_false_iff_ne, bne_eq_false_iff_eq] at hb) <;> first | refine wSkip 10 ?_ | refine wSkipU 10 ?_ | refine wLd 10 ?_))
  all_goals (first | refine wSkip 11 ?_ | refine wSkipU 11 ?_ | refine wCm 11 ?_ | (refine tr_guard (t := 41) rfl (fun hb => ?_) (fun hb => ?_) <;> (try simp only [decide_eq_true_eq, decide_eq_false_iff_not, Bool.not_eq_true, Bool.not_eq_false, beq_iff_eq, bne_iff_ne, ne_eq, Bool.not_eq_eq_eq_not, Bool.not_true, Bool.not_false, beq_eq_false_iff_ne, bne_eq_false_iff_eq] at hb) <;> first | refine wSkip 11 ?_ | refine wSkipU 11 ?_ | refine wCm 11 ?_))
  all_goals refine rPk 12 ?_
  all_goals refine rAs 13 ?_
  all_goals refine rAs 14 ?_
  all_goals refine rDone ?_
  unfold dO at hd
  repeat' (first | (refine tl_is (.tmp 55) ?_; refine tl_call rfl rfl hd tk rfl ?_; rintro v ρ' L' hle hp) | (refine i_op ?_; first | (refine i_qq ?_; refine qQ ?_) | refine qEf ?_) | refine tl_nil ?_ | (refine i_tc ?_; refine qTc ?_) | (refine i_te ?_; refine qTe ?_) | intro _)
  exact qE ⟨rfl, _, hp⟩
end Go.Proofs.E

namespace Go.Proofs.E
open Go
set_option linter.unusedVariables false
set_option linter.unusedSimpArgs false
set_option linter.unusedSectionVars false
set_option maxRecDepth 4000
set_option maxHeartbeats 1000000
attribute [local irreducible] Yl TL TC TE Spec YSpec R1 Hp.le EnvLe TS TR YS Stays
/-! ## sectors, as lists -/
theorem heldC_length {s : Secs} (h : ∀ p ∈ s, p.1.length = 64) : (heldC s).length = s.length * 64 := by
  induction s with
  | nil => rfl
  | cons p r ih =>
    have h1 := h p (by simp)
    have h2 := ih (fun q hq => h q (by simp [hq]))
    simp only [heldC, List.map_cons, List.flatten_cons, List.length_append, List.length_map, List.length_cons] at *
    omega
theorem heldC_take : ∀ {s : Secs} {i : Nat} (h : ∀ p ∈ s, p.1.length = 64) (hi : i < s.length), ((heldC s).drop (i * 64)).take 64 = (s[i].1).map u8c
  | [], i, h, hi => by simp at hi
  | p :: r, 0, h, hi => by
    have h1 := h p (by simp)
    simp only [heldC, List.map_cons, List.flatten_cons, Nat.zero_mul, List.drop_zero, List.getElem_cons_zero]
    rw [List.take_append_of_le_length (by simp [h1]), List.take_of_length_le (by simp [h1])]
  | p :: r, i + 1, h, hi => by
    have h1 := h p (by simp)
    have ih := heldC_take (s := r) (i := i) (fun q hq => h q (by simp [hq])) (by simpa using hi)
    simp only [heldC, List.map_cons, List.flatten_cons, List.getElem_cons_succ] at ih ⊢
    have e : (i + 1) * 64 = (p.1.map u8c).length + i * 64 := by simp [h1]; omega
    rw [e, ← List.drop_drop, List.drop_left]
    exact ih
theorem stc_heldC : ∀ {s : Secs} {i : Nat} {b : Blk} (x : Option Blk) (h : ∀ p ∈ s, p.1.length = 64) (hb : b.length = 64) (hi : i < s.length), stc (heldC s) (i * 64) (b.map u8c) = heldC (s.set i (b, x))
  | [], i, b, x, h, hb, hi => by simp at hi
  | p :: r, 0, b, x, h, hb, hi => by
    have h1 := h p (by simp)
    simp only [stc, heldC, List.map_cons, List.flatten_cons, Nat.zero_mul, List.take_zero, List.nil_append, Nat.zero_add, List.set_cons_zero]
    congr 1
    have e : (b.map u8c).length = (p.1.map u8c).length := by simp [hb, h1]
    rw [e, List.drop_left]
  | p :: r, i + 1, b, x, h, hb, hi => by
    have h1 := h p (by simp)
    have ih := stc_heldC (s := r) (i := i) (b := b) x (fun q hq => h q (by simp [hq])) hb (by simpa using hi)
    simp only [stc, heldC, List.map_cons, List.flatten_cons, List.set_cons_succ] at ih ⊢
    have e : (i + 1) * 64 = (p.1.map u8c).length + i * 64 := by simp [h1]; omega
    rw [e, List.take_length_add_append, Nat.add_assoc, ← List.drop_drop, List.drop_left, ← ih]
    simp
theorem heldC_take' {s : Secs} {i : Nat} (sp : List Value) (h : ∀ p ∈ s, p.1.length = 64) (hi : i < s.length) : ((heldC s ++ sp).drop (i * 64)).take 64 = (s[i].1).map u8c := by
  have hl := heldC_length h
  rw [List.drop_append_of_le_length (by omega), List.take_append_of_le_length (by simp; omega)]
  exact heldC_take h hi
theorem stc_heldC' {s : Secs} {i : Nat} {b : Blk} (sp : List Value) (x : Option Blk) (h : ∀ p ∈ s, p.1.length = 64) (hb : b.length = 64) (hi : i < s.length) : stc (heldC s ++ sp) (i * 64) (b.map u8c) = heldC (s.set i (b, x)) ++ sp := by
  have hl := heldC_length h
  rw [← stc_heldC x h hb hi]
  unfold stc
  rw [List.take_append_of_le_length (by omega), List.drop_append_of_le_length (by simp; omega)]
  simp
theorem heldC_length' {s : Secs} (sp : List Value) (h : ∀ p ∈ s, p.1.length = 64) : (heldC s ++ sp).length = s.length * 64 + sp.length := by
  rw [List.length_append, heldC_length h]
def putC (s : Secs) (i : Nat) (b : Blk) : Secs := s.set i ((s[i]?.getD ([], none)).1, some b)
theorem putC_length {s : Secs} {i b} : (putC s i b).length = s.length := by simp [putC]
theorem heldC_putC {s : Secs} {i : Nat} {b : Blk} (hi : i < s.length) : heldC (putC s i b) = heldC s := by
  unfold heldC putC
  rw [List.map_set]
  congr 1
  apply List.ext_getElem? ; intro j
  rw [List.getElem?_set]
  by_cases e : i = j
  · subst e; simp [hi]
  · simp [e]
theorem SecsOk.putC {s : Secs} {i : Nat} {b : Blk} (h : SecsOk s) (hb : b.length = 64) (hi : i < s.length) : SecsOk (putC s i b) := by
  have hm : ∀ p ∈ E.putC s i b, p ∈ s ∨ p = (s[i].1, some b) := fun p hp => by
    unfold E.putC at hp
    rcases List.mem_or_eq_of_mem_set hp with h1 | h1
    · exact .inl h1
    · right; rw [h1]; simp [hi]
  refine ⟨by rw [putC_length]; exact h.len, by rw [putC_length]; exact h.pos, fun p hp => ?_, fun p hp c hc => ?_⟩
  · rcases hm p hp with h1 | rfl
    · exact h.held p h1
    · exact h.held s[i] (List.getElem_mem hi)
  · rcases hm p hp with h1 | rfl
    · exact h.cached p h1 c hc
    · simp only [Option.some.injEq] at hc; subst hc; exact hb
theorem MapOk.put {s : Secs} {es es' : List MapEntry} {i : Int} {b : Blk} (h : MapOk s es) (h0 : 0 ≤ i) (hi : i < s.length) (hk : IntKeys .i64 es') (hg : ∀ j, mget es' j = if j = i then some (bv b) else mget es j) : MapOk (putC s i.toNat b) es' := by
  refine ⟨hk, fun j => ?_⟩
  rw [hg]
  by_cases e : j = i
  · subst e
    have : j.toNat < s.length := by omega
    simp [putC, h0, this]
  · rw [if_neg e, h.get]
    by_cases h1 : 0 ≤ j
    · have hne : i.toNat ≠ j.toNat := by omega
      simp only [h1, if_true, putC]
      rw [List.getElem?_set_ne hne]
    · simp [h1]
/-- what a sector says -/
def says1 (p : Blk × Option Blk) : Blk := p.2.getD p.1
theorem MapOk.at {s : Secs} {es : List MapEntry} (h : MapOk s es) {i : Nat} (hi : i < s.length) : mget es i = (s[i].2).map bv := by
  rw [h.get]; simp [hi]
def emptyC (s : Secs) : Prop := ∀ p ∈ s, p.2 = none
theorem MapOk.empty {s : Secs} (h : emptyC s) : MapOk s [] := by
  refine ⟨fun e he => by simp at he, fun j => ?_⟩
  by_cases h1 : 0 ≤ j
  · simp only [h1, if_true, mget, List.find?_nil, Option.map_none]
    cases hs : s[j.toNat]? with
    | none => simp
    | some p => simp [h p (List.mem_of_getElem? hs)]
  · simp [mget, h1]
end Go.Proofs.E

namespace Go.Proofs.E
open Go
set_option linter.unusedVariables false
set_option linter.unusedSimpArgs false
set_option linter.unusedSectionVars false
set_option maxRecDepth 4000
set_option maxHeartbeats 1000000
attribute [local irreducible] Yl TL TC TE Spec YSpec R1 Hp.le EnvLe TS TR YS Stays
structure DS where
  secs : Secs
  ops : Int
  armed : Int
  failing : Int
  dead : Bool
structure DS.Ok (D : DS) : Prop where
  secs : SecsOk D.secs
  a1 : -1 ≤ D.armed
  a2 : D.armed ≤ 9223372036854775807
  f1 : -1 ≤ D.failing
  f2 : D.failing ≤ 9223372036854775807
def diskL (b : Nat) (hb : HB) (mb : Nat) (es : List MapEntry) (ck : Nat) (D : DS) : SH := [[(b, dO hb mb D.secs.length D.ops D.armed D.failing D.dead)], [(hb.b, .cells ⟨heldC D.secs ++ hb.sp⟩ 66 (0, 0))], [(mb, .map ⟨es⟩ ck)]]
def cnt (n : Int) : Int := max (n - 1) (-1)
/-- an operation that has begun -/
def DS.tick (D : DS) : DS := { D with ops := IntKind.i64.wrap (D.ops + 1), failing := cnt D.failing }

theorem write1 (ρ : Hp) (b : Nat) (hb : HB) (mb xb pb ib n : Nat) (ops armed failing i : Int) (dead : Bool) (es : List MapEntry) (ck : Nat) (blk : Blk) (hb64 : blk.length = 64) (hk : IntKeys .i64 es) :
    Spec Try.prog 120 [.pointer (some ⟨xb, 0, none⟩), .pointer (some ⟨pb, 0, none⟩), .pointer (some ⟨ib, 0, none⟩)] ρ
      [[(b, dO hb mb n ops armed failing dead)], [(mb, .map ⟨es⟩ ck)], [(xb, .cells ⟨blk.map u8c⟩ 66 (0, 0))], [(pb, .cells ⟨[.pointer (some ⟨b, 0, none⟩)]⟩ 25 (0, 0))], [(ib, .cells ⟨[.int .i64 i]⟩ 3 (0, 0))]]
      (fun v ρ' L' => v = .tuple ⟨[]⟩ ∧ ρ' = ρ ∧ ∃ es' ck', IntKeys .i64 es' ∧ (∀ j, mget es' j = if j = i then some (bv blk) else mget es j) ∧
        L' = [[(b, dO hb mb n ops armed failing dead)], [(mb, .map ⟨es'⟩ ck')], [(xb, .cells ⟨blk.map u8c⟩ 66 (0, 0))], [(pb, .cells ⟨[.pointer (some ⟨b, 0, none⟩)]⟩ 25 (0, 0))], [(ib, .cells ⟨[.int .i64 i]⟩ 3 (0, 0))]]) := by
  refine spec_enter Try.func120 rfl rfl rfl fun u R => ?_
  simp only [argsE, List.cons_append, List.nil_append, dO]
  have hl : (blk.map u8c).length = 64 := by simpa using hb64
  repeat' (first | (refine i_op ?_; first | (refine i_qq ?_; refine qQ ?_) | refine qEf ?_) | refine tl_nil ?_ | (refine i_tc ?_; refine qTc ?_) | (refine i_te ?_; refine qTe ?_) | intro _)
  refine tc_draw 6 (by decide +kernel) (by decide +kernel) ?_
  repeat' (first | (refine jLd ?_; refine sLd ?_) | (refine jFa ?_; refine sFa ?_) | (refine jNc ?_; refine sNc ?_) | (refine j_gd ?_; first | refine sWant ?_ | refine sSkip ?_ | refine sSkipU ?_))
  all_goals refine ts_nil ?_
  refine tl_mapUpdate rfl rfl rfl hk (fun es' ck' h1 h2 => ?_)
  repeat' (first | (refine i_op ?_; first | (refine i_qq ?_; refine qQ ?_) | refine qEf ?_) | refine tl_nil ?_ | (refine i_tc ?_; refine qTc ?_) | (refine i_te ?_; refine qTe ?_) | intro _)
  exact qE ⟨rfl, rfl, es', ck', h1, h2, rfl⟩

/-- what a Write comes to -/
def DS.write (D : DS) (i : Int) (blk : Blk) : DS × Int :=
  if D.dead then (D, 9) else if i < 0 ∨ (D.secs.length : Int) ≤ i then (D, 2)
  else if D.armed = 0 then ({ D.tick with dead := true, secs := putC D.secs i.toNat blk }, 9)
  else if D.failing = 0 then (D.tick, 8)
  else ({ D.tick with armed := cnt D.armed, secs := putC D.secs i.toNat blk }, 0)
theorem dwrite_spec (ρ : Hp) (b : Nat) (hb : HB) (mb : Nat) (es : List MapEntry) (ck : Nat) (D : DS) (i : Int) (blk : Blk) (hb64 : blk.length = 64) (hD : D.Ok) (hm : MapOk D.secs es) :
    Spec Try.prog 86 [.pointer (some ⟨b, 0, none⟩), .int .i64 i, bv blk] ρ (diskL b hb mb es ck D)
      (fun v ρ' L' => v = .int .i64 (D.write i blk).2 ∧ ρ' = ρ ∧ ∃ es' ck', MapOk (D.write i blk).1.secs es' ∧ L' = diskL b hb mb es' ck' (D.write i blk).1) := by
  obtain ⟨s, ops, armed, failing, dead⟩ := D
  obtain ⟨hs, a1, a2, f1, f2⟩ := hD
  dsimp only at hs a1 a2 f1 f2 hm
  have hl : (blk.map u8c).length = 64 := by simpa using hb64
  have hk := hm.keys
  cases dead with
  | true =>
    have he : DS.write ⟨s, ops, armed, failing, true⟩ i blk = (⟨s, ops, armed, failing, true⟩, 9) := by simp [DS.write]
    simp only [he]
    refine spec_enter Try.func86 rfl rfl rfl fun u R => ?_
    simp only [argsE, List.cons_append, List.nil_append, diskL, bv]
    repeat' (first | (refine tl_is (.func 67) ?_; refine qC rfl rfl (does_dead _ _ _ _ _ _ _ _ _ _ _) ?_; rintro v ρ' L' hle ⟨rfl, rfl, rfl⟩ <;> (try simp only [List.cons_append, List.nil_append, List.append_eq])) | (refine i_op ?_; first | (refine i_qq ?_; refine qQ ?_) | refine qEf ?_) | refine tl_nil ?_ | (refine i_tc ?_; refine qTc ?_) | (refine i_te ?_; refine qTe ?_) | intro _)
    exact qE ⟨rfl, rfl, es, ck, hm, rfl⟩
  | false =>
    by_cases hi : i < 0 ∨ (s.length : Int) ≤ i
    · have he : DS.write ⟨s, ops, armed, failing, false⟩ i blk = (⟨s, ops, armed, failing, false⟩, 2) := by simp [DS.write, hi]
      simp only [he]
      refine spec_enter Try.func86 rfl rfl rfl fun u R => ?_
      simp only [argsE, List.cons_append, List.nil_append, diskL, bv]
      repeat' (first | (refine tl_is (.func 67) ?_; refine qC rfl rfl (does_arg _ _ _ _ _ _ _ _ _ _ _ hi) ?_; rintro v ρ' L' hle ⟨rfl, rfl, rfl⟩ <;> (try simp only [List.cons_append, List.nil_append, List.append_eq])) | (refine i_op ?_; first | (refine i_qq ?_; refine qQ ?_) | refine qEf ?_) | refine tl_nil ?_ | (refine i_tc ?_; refine qTc ?_) | (refine i_te ?_; refine qTe ?_) | intro _)
      exact qE ⟨rfl, rfl, es, ck, hm, rfl⟩
    · have hi0 : 0 ≤ i := by omega
      have hi1 : i < s.length := by omega
      have hlen : (putC s i.toNat blk).length = s.length := putC_length
      have hheld : heldC (putC s i.toNat blk) = heldC s := heldC_putC (by omega)
      by_cases ha : armed = 0
      · subst ha
        have he : DS.write ⟨s, ops, 0, failing, false⟩ i blk = (⟨putC s i.toNat blk, IntKind.i64.wrap (ops + 1), 0, cnt failing, true⟩, 9) := by simp [DS.write, hi, DS.tick]
        simp only [he]
        refine spec_enter Try.func86 rfl rfl rfl fun u R => ?_
        simp only [argsE, List.cons_append, List.nil_append, diskL, bv, hlen, hheld]
        repeat' (first | (refine tl_is (.func 67) ?_; refine qC rfl rfl (does_dies _ _ _ _ _ _ _ _ _ _ _ _ _ hi0 hi1 f1 f2 (write1 _ _ _ _ _ _ _ _ _ _ _ _ _ _ _ blk hb64 hk)) ?_; rintro v ρ' L' hle ⟨rfl, v0, h0, rfl, es', ck', h1, h2, rfl⟩ <;> (try simp only [List.cons_append, List.nil_append, List.append_eq])) | (refine i_op ?_; first | (refine i_qq ?_; refine qQ ?_) | refine qEf ?_) | refine tl_nil ?_ | (refine i_tc ?_; refine qTc ?_) | (refine i_te ?_; refine qTe ?_) | intro _)
        exact qE ⟨rfl, rfl, es', ck', hm.put hi0 hi1 h1 h2, rfl⟩
      · by_cases hf : failing = 0
        · subst hf
          have he : DS.write ⟨s, ops, armed, 0, false⟩ i blk = (⟨s, IntKind.i64.wrap (ops + 1), armed, -1, false⟩, 8) := by simp [DS.write, hi, DS.tick, ha, cnt]
          simp only [he]
          refine spec_enter Try.func86 rfl rfl rfl fun u R => ?_
          simp only [argsE, List.cons_append, List.nil_append, diskL, bv]
          repeat' (first | (refine tl_is (.func 67) ?_; refine qC rfl rfl (does_fail_w _ _ _ _ _ _ _ _ _ _ _ hi0 hi1 ha) ?_; rintro v ρ' L' hle ⟨rfl, rfl, rfl⟩ <;> (try simp only [List.cons_append, List.nil_append, List.append_eq])) | (refine i_op ?_; first | (refine i_qq ?_; refine qQ ?_) | refine qEf ?_) | refine tl_nil ?_ | (refine i_tc ?_; refine qTc ?_) | (refine i_te ?_; refine qTe ?_) | intro _)
          exact qE ⟨rfl, rfl, es, ck, hm, rfl⟩
        · have he : DS.write ⟨s, ops, armed, failing, false⟩ i blk = (⟨putC s i.toNat blk, IntKind.i64.wrap (ops + 1), cnt armed, cnt failing, false⟩, 0) := by simp [DS.write, hi, DS.tick, ha, hf]
          simp only [he]
          refine spec_enter Try.func86 rfl rfl rfl fun u R => ?_
          simp only [argsE, List.cons_append, List.nil_append, diskL, bv, hlen, hheld]
          repeat' (first | (refine tl_is (.func 67) ?_; refine qC rfl rfl (does_ok_w _ _ _ _ _ _ _ _ _ _ _ _ _ _ _ hi0 hi1 hf f1 f2 ha a1 a2 (write1 _ _ _ _ _ _ _ _ _ _ _ _ _ _ _ blk hb64 hk)) ?_; rintro v ρ' L' hle ⟨rfl, v0, h0, rfl, es', ck', h1, h2, rfl⟩ <;> (try simp only [List.cons_append, List.nil_append, List.append_eq])) | (refine i_op ?_; first | (refine i_qq ?_; refine qQ ?_) | refine qEf ?_) | refine tl_nil ?_ | (refine i_tc ?_; refine qTc ?_) | (refine i_te ?_; refine qTe ?_) | intro _)
          exact qE ⟨rfl, rfl, es', ck', hm.put hi0 hi1 h1 h2, rfl⟩
end Go.Proofs.E

namespace Go.Proofs.E
open Go
set_option linter.unusedVariables false
set_option linter.unusedSimpArgs false
set_option linter.unusedSectionVars false
set_option maxRecDepth 4000
set_option maxHeartbeats 1000000
attribute [local irreducible] Yl TL TC TE Spec YSpec R1 Hp.le EnvLe TS TR YS Stays
theorem read1 (ρ : Hp) (b : Nat) (hb : HB) (mb pb ib rb : Nat) (s : Secs) (ops armed failing : Int) (i : Nat) (dead : Bool) (es : List MapEntry) (ck : Nat) (r : List Value) (hr : r.length = 64) (hs : SecsOk s) (hm : MapOk s es) (hi : i < s.length) :
    Spec Try.prog 68 [.pointer (some ⟨pb, 0, none⟩), .pointer (some ⟨ib, 0, none⟩), .pointer (some ⟨rb, 0, none⟩)] ρ
      [[(b, dO hb mb s.length ops armed failing dead)], [(hb.b, .cells ⟨heldC s ++ hb.sp⟩ 66 (0, 0))], [(mb, .map ⟨es⟩ ck)], [(pb, .cells ⟨[.pointer (some ⟨b, 0, none⟩)]⟩ 25 (0, 0))], [(ib, .cells ⟨[.int .i64 i]⟩ 3 (0, 0))], [(rb, .cells ⟨r⟩ 66 (0, 0))]]
      (fun v ρ' L' => v = .tuple ⟨[]⟩ ∧ ρ' = ρ ∧ L' = [[(b, dO hb mb s.length ops armed failing dead)], [(hb.b, .cells ⟨heldC s ++ hb.sp⟩ 66 (0, 0))], [(mb, .map ⟨es⟩ ck)], [(pb, .cells ⟨[.pointer (some ⟨b, 0, none⟩)]⟩ 25 (0, 0))], [(ib, .cells ⟨[.int .i64 i]⟩ 3 (0, 0))], [(rb, .cells ⟨(says1 s[i]).map u8c⟩ 66 (0, 0))]]) := by
  have hk := hm.keys
  have hat := hm.at hi
  have hh : (s[i].1.map u8c).length = 64 := by simpa using hs.held s[i] (List.getElem_mem hi)
  have ht : ((heldC s ++ hb.sp).drop (0 + i * 64)).take 64 = (s[i].1).map u8c := by rw [Nat.zero_add]; exact heldC_take' hb.sp hs.held hi
  have hlen := heldC_length' hb.sp hs.held
  have o1 := u8c_one
  cases hc : s[i].2 with
  | none =>
    have hsay : says1 s[i] = s[i].1 := by simp [says1, hc]
    rw [hc] at hat
    simp only [Option.map_none] at hat
    have hone := u8c_one s[i].1
    refine spec_enter Try.func68 rfl rfl rfl fun u R => ?_
    simp only [argsE, List.cons_append, List.nil_append, dO, hsay]
    repeat' (first | (refine i_op ?_; first | (refine i_qq ?_; refine qQ ?_) | refine qEf ?_) | refine tl_nil ?_ | (refine i_tc ?_; refine qTc ?_) | (refine i_te ?_; refine qTe ?_) | intro _)
    refine tc_any (Stays _ _ _) stays_refl ?_
    all_goals refine rLd 0 ?_
    all_goals refine rNc 1 ?_
    all_goals refine rFa 2 ?_
    all_goals refine rLd 3 ?_
    all_goals refine rLd 4 ?_
    all_goals refine rLu 5 ?_
    all_goals refine rMv 6 ?_
    all_goals refine rEx 7 ?_
    all_goals refine rEx 8 ?_
    all_goals (refine rStep (i := 9) ?_; ((try refine qWant ?_); (first | (refine qEf ?_; try intro _)) <;> ((try simp only [List.cons_append, List.nil_append, List.append_eq]); refine tl_nil ?_; refine rNext ?_)))
    all_goals (refine rStep (i := 10) ?_; ((try refine qWant ?_); (first | (refine qEf ?_; try intro _)) <;> ((try simp only [List.cons_append, List.nil_append, List.append_eq]); refine tl_nil ?_; refine rNext ?_)))
    all_goals refine rFull ?_
    all_goals refine rAs 11 ?_
    all_goals refine rDone ?_
    repeat' (first | (refine i_op ?_; first | (refine i_qq ?_; refine qQ ?_) | refine qEf ?_) | refine tl_nil ?_ | (refine i_tc ?_; refine qTc ?_) | (refine i_te ?_; refine qTe ?_) | intro _)
    refine tc_draw 7 (by decide +kernel) (by decide +kernel) ?_
    repeat' (first | (refine jLd ?_; refine sLd ?_) | (refine jFa ?_; refine sFa ?_) | (refine jNc ?_; refine sNc ?_) | (refine jIa ?_; refine sIa ?_) | (refine j_gd ?_; first | refine sWant ?_ | refine sSkip ?_ | refine sSkipU ?_))
    all_goals refine ts_nil ?_
    repeat' (first | (refine i_op ?_; first | (refine i_qq ?_; refine qQ ?_) | refine qEf ?_) | refine tl_nil ?_ | (refine i_tc ?_; refine qTc ?_) | (refine i_te ?_; refine qTe ?_) | intro _)
    exact qE ⟨rfl, rfl, rfl⟩
  | some c =>
    have hsay : says1 s[i] = c := by simp [says1, hc]
    have hcl : (c.map u8c).length = 64 := by simpa using hs.cached s[i] (List.getElem_mem hi) c hc
    rw [hc] at hat
    simp only [Option.map_some] at hat
    have hone := u8c_one c
    refine spec_enter Try.func68 rfl rfl rfl fun u R => ?_
    simp only [argsE, List.cons_append, List.nil_append, dO, hsay]
    repeat' (first | (refine i_op ?_; first | (refine i_qq ?_; refine qQ ?_) | refine qEf ?_) | refine tl_nil ?_ | (refine i_tc ?_; refine qTc ?_) | (refine i_te ?_; refine qTe ?_) | intro _)
    refine tc_any (Stays _ _ _) stays_refl ?_
    all_goals refine rLd 0 ?_
    all_goals refine rNc 1 ?_
    all_goals refine rFa 2 ?_
    all_goals refine rLd 3 ?_
    all_goals refine rLd 4 ?_
    all_goals refine rLu 5 ?_
    all_goals refine rMv 6 ?_
    all_goals refine rEx 7 ?_
    all_goals refine rEx 8 ?_
    all_goals (refine rStep (i := 9) ?_; ((try refine qWant ?_); (first | (refine qEf ?_; try intro _)) <;> ((try simp only [List.cons_append, List.nil_append, List.append_eq]); refine tl_nil ?_; refine rNext ?_)))
    all_goals (refine rStep (i := 10) ?_; ((try refine qWant ?_); (first | (refine qEf ?_; try intro _)) <;> ((try simp only [List.cons_append, List.nil_append, List.append_eq]); refine tl_nil ?_; refine rNext ?_)))
    all_goals refine rFull ?_
    all_goals refine rAs 11 ?_
    all_goals refine rDone ?_
    repeat' (first | (refine i_op ?_; first | (refine i_qq ?_; refine qQ ?_) | refine qEf ?_) | refine tl_nil ?_ | (refine i_tc ?_; refine qTc ?_) | (refine i_te ?_; refine qTe ?_) | intro _)
    exact qE ⟨rfl, rfl, rfl⟩
def zblk : Blk := List.replicate 64 0
theorem zblk_cells : List.replicate 64 (Value.int .u8 0) = zblk.map u8c := by rfl
def DS.read (D : DS) (i : Int) : DS × Blk × Int :=
  if D.dead then (D, zblk, 9) else if i < 0 ∨ (D.secs.length : Int) ≤ i then (D, zblk, 2)
  else if D.failing = 0 then (D.tick, zblk, 8)
  else (D.tick, says1 (D.secs[i.toNat]?.getD (zblk, none)), 0)
theorem dread_spec (ρ : Hp) (b : Nat) (hb : HB) (mb : Nat) (es : List MapEntry) (ck : Nat) (D : DS) (i : Int) (hD : D.Ok) (hm : MapOk D.secs es) :
    Spec Try.prog 26 [.pointer (some ⟨b, 0, none⟩), .int .i64 i] ρ (diskL b hb mb es ck D)
      (fun v ρ' L' => v = .tuple ⟨[bv (D.read i).2.1, .int .i64 (D.read i).2.2]⟩ ∧ ρ' = ρ ∧ L' = diskL b hb mb es ck (D.read i).1) := by
  obtain ⟨s, ops, armed, failing, dead⟩ := D
  obtain ⟨hs, a1, a2, f1, f2⟩ := hD
  dsimp only at hs a1 a2 f1 f2 hm
  have hz0 : (List.replicate 64 (Value.int .u8 0)).length = 64 := by rfl
  have hz64 : (List.replicate 64 (Value.int .u8 0)).all (·.oneCell') = true := by rfl
  cases dead with
  | true =>
    have he : DS.read ⟨s, ops, armed, failing, true⟩ i = (⟨s, ops, armed, failing, true⟩, zblk, 9) := by simp [DS.read]
    simp only [he]
    refine spec_enter Try.func26 rfl rfl rfl fun u R => ?_
    simp only [argsE, List.cons_append, List.nil_append, diskL, bv, ← zblk_cells]
    repeat' (first | (refine tl_is (.func 67) ?_; refine qC rfl rfl (does_dead _ _ _ _ _ _ _ _ _ _ _) ?_; rintro v ρ' L' hle ⟨rfl, rfl, rfl⟩ <;> (try simp only [List.cons_append, List.nil_append, List.append_eq])) | (refine i_op ?_; first | (refine i_qq ?_; refine qQ ?_) | refine qEf ?_) | refine tl_nil ?_ | (refine i_tc ?_; refine qTc ?_) | (refine i_te ?_; refine qTe ?_) | intro _)
    exact qE ⟨rfl, rfl, rfl⟩
  | false =>
    by_cases hi : i < 0 ∨ (s.length : Int) ≤ i
    · have he : DS.read ⟨s, ops, armed, failing, false⟩ i = (⟨s, ops, armed, failing, false⟩, zblk, 2) := by simp [DS.read, hi]
      simp only [he]
      refine spec_enter Try.func26 rfl rfl rfl fun u R => ?_
      simp only [argsE, List.cons_append, List.nil_append, diskL, bv, ← zblk_cells]
      repeat' (first | (refine tl_is (.func 67) ?_; refine qC rfl rfl (does_arg _ _ _ _ _ _ _ _ _ _ _ hi) ?_; rintro v ρ' L' hle ⟨rfl, rfl, rfl⟩ <;> (try simp only [List.cons_append, List.nil_append, List.append_eq])) | (refine i_op ?_; first | (refine i_qq ?_; refine qQ ?_) | refine qEf ?_) | refine tl_nil ?_ | (refine i_tc ?_; refine qTc ?_) | (refine i_te ?_; refine qTe ?_) | intro _)
      exact qE ⟨rfl, rfl, rfl⟩
    · have hi0 : 0 ≤ i := by omega
      have hi1 : i < s.length := by omega
      by_cases hf : failing = 0
      · subst hf
        have he : DS.read ⟨s, ops, armed, 0, false⟩ i = (⟨s, IntKind.i64.wrap (ops + 1), armed, -1, false⟩, zblk, 8) := by simp [DS.read, hi, DS.tick, cnt]
        simp only [he]
        refine spec_enter Try.func26 rfl rfl rfl fun u R => ?_
        simp only [argsE, List.cons_append, List.nil_append, diskL, bv, ← zblk_cells]
        repeat' (first | (refine tl_is (.func 67) ?_; refine qC rfl rfl (does_fail_r _ _ _ _ _ _ _ _ _ hi0 hi1) ?_; rintro v ρ' L' hle ⟨rfl, rfl, rfl⟩ <;> (try simp only [List.cons_append, List.nil_append, List.append_eq])) | (refine i_op ?_; first | (refine i_qq ?_; refine qQ ?_) | refine qEf ?_) | refine tl_nil ?_ | (refine i_tc ?_; refine qTc ?_) | (refine i_te ?_; refine qTe ?_) | intro _)
        exact qE ⟨rfl, rfl, rfl⟩
      · obtain ⟨k, rfl⟩ : ∃ k : Nat, i = k := ⟨i.toNat, by omega⟩
        have hk : k < s.length := by omega
        have hsay : (says1 s[k]).length = 64 := by
          unfold says1
          cases hc : s[k].2 with
          | none => exact hs.held s[k] (List.getElem_mem hk)
          | some c => exact hs.cached s[k] (List.getElem_mem hk) c hc
        have hsl : ((says1 s[k]).map u8c).length = 64 := by simpa using hsay
        have hone := u8c_one (says1 s[k])
        have he : DS.read ⟨s, ops, armed, failing, false⟩ (k : Int) = (⟨s, IntKind.i64.wrap (ops + 1), armed, cnt failing, false⟩, says1 s[k], 0) := by simp [DS.read, hi, DS.tick, hf, hk]
        simp only [he]
        refine spec_enter Try.func26 rfl rfl rfl fun u R => ?_
        simp only [argsE, List.cons_append, List.nil_append, diskL, bv]
        repeat' (first | (refine tl_is (.func 67) ?_; refine qC rfl rfl (does_ok_r _ _ _ _ _ _ _ _ _ _ _ _ _ hi0 hi1 hf f1 f2 (read1 _ _ _ _ _ _ _ _ _ _ _ _ _ _ _ _ hz0 hs hm hk)) ?_; rintro v ρ' L' hle ⟨rfl, v0, h0, rfl, rfl⟩ <;> (try simp only [List.cons_append, List.nil_append, List.append_eq])) | (refine i_op ?_; first | (refine i_qq ?_; refine qQ ?_) | refine qEf ?_) | refine tl_nil ?_ | (refine i_tc ?_; refine qTc ?_) | (refine i_te ?_; refine qTe ?_) | intro _)
        exact qE ⟨rfl, rfl, rfl⟩
end Go.Proofs.E

namespace Go.Proofs.E
open Go
set_option linter.unusedVariables false
set_option linter.unusedSimpArgs false
set_option linter.unusedSectionVars false
set_option maxRecDepth 4000
set_option maxHeartbeats 1000000
attribute [local irreducible] Yl TL TC TE Spec YSpec R1 Hp.le EnvLe TS TR YS Stays
def isP (s : Secs) (i : Nat) : Bool := ((s[i]?).bind (·.2)).isSome
def pendTo (s : Secs) (k : Nat) : List Nat := (List.range k).filter (isP s)
def pend (s : Secs) : List Nat := pendTo s s.length
theorem pendTo_succ_t {s : Secs} {k : Nat} (h : isP s k = true) : pendTo s (k + 1) = pendTo s k ++ [k] := by simp [pendTo, List.range_succ, h]
theorem pendTo_succ_f {s : Secs} {k : Nat} (h : isP s k = false) : pendTo s (k + 1) = pendTo s k := by simp [pendTo, List.range_succ, h]
theorem pendTo_pre {s : Secs} {k m : Nat} (h : k ≤ m) : pendTo s k <+: pendTo s m := by
  induction m with
  | zero => have : k = 0 := by omega
            subst this; exact List.prefix_refl _
  | succ m ih =>
    by_cases e : k = m + 1
    · subst e; exact List.prefix_refl _
    · refine (ih (by omega)).trans ?_
      cases hp : isP s m
      · rw [pendTo_succ_f hp]; exact List.prefix_refl _
      · rw [pendTo_succ_t hp]; exact List.prefix_append _ _
def natE (i : Nat) : List Value := [.int .i64 i]

theorem pending1_iter (ρ0 : Hp) (b : Nat) (hb : HB) (mb bx : Nat) (s : Secs) (ops armed failing : Int) (dead : Bool) (es : List MapEntry) (ck : Nat) (hm : MapOk s es) (hs : SecsOk s) :
    Iter Try.prog 125 [] [.pointer (some ⟨bx, 0, none⟩)] natE ρ0
      [[(bx, .cells ⟨[.pointer (some ⟨b, 0, none⟩)]⟩ 25 (0, 0))], [(b, dO hb mb s.length ops armed failing dead)], [(mb, .map ⟨es⟩ ck)]] (pend s) := by
  intro l J Jx hY ρ Lj hle hJ
  refine spec_enter Try.func125 rfl rfl rfl fun u R => ?_
  simp only [argsE, List.cons_append, List.nil_append, dO]
  have hk := hm.keys
  have hlen := hs.len
  repeat' (first | (refine i_op ?_; first | (refine i_qq ?_; refine qQ ?_) | refine qEf ?_) | refine tl_nil ?_ | (refine i_tc ?_; refine qTc ?_) | (refine i_te ?_; refine qTe ?_) | intro _)
  refine tc_loop_e (fun (y : Nat × Hp × SH) => ⟨[(0, .func (.yield l) ⟨[]⟩ ⟨[]⟩), (1, .pointer (some ⟨bx, 0, none⟩)), (10, .int .i64 s.length), (11, .int .i64 y.1)], y.2.1,
      [[(bx, .cells ⟨[.pointer (some ⟨b, 0, none⟩)]⟩ 25 (0, 0))], [(b, dO hb mb s.length ops armed failing dead)], [(mb, .map ⟨es⟩ ck)]] ++ y.2.2 ++ R⟩)
    (fun y => y.1 ≤ s.length ∧ ρ.le y.2.1 ∧ J (pendTo s y.1) y.2.1 y.2.2) (fun y => s.length - y.1) (0, ρ, Lj) rfl ⟨by simp, Hp.le_refl _, hJ⟩
    ev_le rfl tk inferInstance ?_
  rintro ⟨k, ρ1, L1⟩ ⟨h1, h2, h3⟩
  dsimp only at h1 h2 h3 ⊢
  simp only [List.cons_append, List.nil_append, dO]
  by_cases hlt : k < s.length
  · have hat := hm.at hlt
    cases hc : s[k].2 with
    | none =>
      rw [hc] at hat
      simp only [Option.map_none] at hat
      have hp : isP s k = false := by simp [isP, hlt, hc]
      repeat' (first | (refine i_op ?_; first | (refine i_qq ?_; refine qQ ?_) | refine qEf ?_) | refine tl_nil ?_ | (refine i_tc ?_; refine qTc ?_) | (refine i_te ?_; refine qTe ?_) | intro _)
      refine te_round_e (Lm := [_, _, _] ++ L1) (R := R) (k + 1, ρ1, L1) rfl ⟨by omega, h2, by dsimp only; rw [pendTo_succ_f hp]; exact h3⟩ ev_le rfl tk inferInstance (by dsimp only; omega)
    | some c =>
      rw [hc] at hat
      simp only [Option.map_some] at hat
      have hp : isP s k = true := by simp [isP, hlt, hc]
      have hsub := pendTo_succ_t hp
      have hpre : pendTo s k ++ [k] <+: pend s := by rw [← hsub]; exact pendTo_pre (by omega)
      have hone := u8c_one c
      have hcl : (c.map u8c).length = 64 := by simpa using hs.cached s[k] (List.getElem_mem hlt) c hc
      have hy := hY (pendTo s k) k ρ1 L1 hpre (Hp.le_trans hle h2) h3
      unfold dO at hy
      repeat' (first | (refine tl_is (.tmp 25) ?_; refine qY rfl rfl (hy) ?_; rintro v ρ' L' hle ⟨Lj', rfl, ⟨rfl, hj⟩ | ⟨rfl, hj⟩⟩ <;> (try simp only [List.cons_append, List.nil_append, List.append_eq])) | (refine i_op ?_; first | (refine i_qq ?_; refine qQ ?_) | refine qEf ?_) | refine tl_nil ?_ | (refine i_tc ?_; refine qTc ?_) | (refine i_te ?_; refine qTe ?_) | intro _)
      · refine te_round_e (Lm := [_, _, _] ++ Lj') (R := R) (k + 1, ρ', Lj') rfl ⟨by omega, Hp.le_trans h2 hle, by dsimp only; rw [hsub]; exact hj⟩ ev_le rfl tk inferInstance (by dsimp only; omega)
      · exact te_end rfl rfl rfl (res0 rfl) (Hp.le_trans h2 hle) tk (by infer_instance) ⟨Lj', rfl, .inr hj⟩
  · have hk2 : k = s.length := by omega
    subst hk2
    repeat' (first | (refine i_op ?_; first | (refine i_qq ?_; refine qQ ?_) | refine qEf ?_) | refine tl_nil ?_ | (refine i_tc ?_; refine qTc ?_) | (refine i_te ?_; refine qTe ?_) | intro _)
    exact te_end rfl rfl rfl (res0 rfl) h2 tk (by infer_instance) ⟨L1, rfl, .inl h3⟩
theorem pending_spec (ρ : Hp) (b : Nat) : Spec Try.prog 93 [.pointer (some ⟨b, 0, none⟩)] ρ [] (fun v ρ' L' => ∃ bx, v = .func (.func 125) ⟨[]⟩ ⟨[.pointer (some ⟨bx, 0, none⟩)]⟩ ∧ ρ' = ρ ∧ L' = [[(bx, .cells ⟨[.pointer (some ⟨b, 0, none⟩)]⟩ 25 (0, 0))]]) := by
  refine spec_enter Try.func93 rfl rfl rfl fun u R => ?_
  simp only [argsE, List.cons_append, List.nil_append]
  repeat' (first | (refine i_op ?_; first | (refine i_qq ?_; refine qQ ?_) | refine qEf ?_) | refine tl_nil ?_ | (refine i_tc ?_; refine qTc ?_) | (refine i_te ?_; refine qTe ?_) | intro _)
  exact qE ⟨_, rfl, rfl, rfl⟩
theorem pendTo_length (s : Secs) (k : Nat) : (pendTo s k).length ≤ k := by
  unfold pendTo
  refine Nat.le_trans (List.length_filter_le _ _) (by simp)
theorem pend_length {s : Secs} (h : SecsOk s) : (pend s).length ≤ 2048 := Nat.le_trans (pendTo_length s _) h.len
end Go.Proofs.E

namespace Go.Proofs.E
open Go
set_option linter.unusedVariables false
set_option linter.unusedSimpArgs false
set_option linter.unusedSectionVars false
set_option maxRecDepth 4000
set_option maxHeartbeats 1000000
attribute [local irreducible] Yl TL TC TE Spec YSpec R1 Hp.le EnvLe TS TR YS Stays
theorem filter_range_pre (p : Nat → Bool) : ∀ (n : Nat) (pre : List Nat) (y : Nat), (pre ++ [y]) <+: (List.range n).filter p → pre = (List.range y).filter p ∧ p y = true ∧ y < n
  | 0, pre, y, h => by simp at h
  | n + 1, pre, y, h => by
    rw [List.range_succ, List.filter_append] at h
    cases hp : p n with
    | false =>
      have h' : (pre ++ [y]) <+: (List.range n).filter p := by simpa [hp] using h
      obtain ⟨h1, h2, h3⟩ := filter_range_pre p n pre y h'
      exact ⟨h1, h2, by omega⟩
    | true =>
      have h' : (pre ++ [y]) <+: (List.range n).filter p ++ [n] := by simpa [hp] using h
      by_cases hl : (pre ++ [y]).length ≤ ((List.range n).filter p).length
      · have h2 : (pre ++ [y]) <+: (List.range n).filter p := List.prefix_of_prefix_length_le h' (List.prefix_append _ _) hl
        obtain ⟨h1, h2, h3⟩ := filter_range_pre p n pre y h2
        exact ⟨h1, h2, by omega⟩
      · have hlen := h'.length_le
        have he : pre ++ [y] = (List.range n).filter p ++ [n] := h'.eq_of_length (by simp at hl hlen ⊢; omega)
        obtain ⟨h1, h2⟩ := List.append_inj' he rfl
        simp only [List.cons.injEq, and_true] at h2
        subst h2
        exact ⟨h1, hp, by omega⟩
/-- behind so many settled sectors: what is held -/
def setAfter (keep : Nat → Bool) (s : Secs) (m : Nat) : Secs := s.mapIdx fun i p => if isP s i && decide ((pendTo s i).length < m) && keep (pendTo s i).length then (p.2.getD p.1, p.2) else p
def settled (keep : Nat → Bool) (s : Secs) : Secs := (setAfter keep s (pend s).length).map fun p => (p.1, none)
theorem setAfter_length {keep s m} : (setAfter keep s m).length = s.length := by simp [setAfter]
theorem settled_length {keep s} : (settled keep s).length = s.length := by simp [settled, setAfter_length]
theorem setAfter_zero {keep : Nat → Bool} {s : Secs} : setAfter keep s 0 = s := by
  unfold setAfter
  apply List.ext_getElem (by simp)
  intro i h1 h2
  simp
theorem heldC_settled {keep s} : heldC (settled keep s) = heldC (setAfter keep s (pend s).length) := by simp [heldC, settled, Function.comp_def]
theorem pendTo_lt {s : Secs} {i j : Nat} (h : i < j) (hp : isP s i = true) : (pendTo s i).length < (pendTo s j).length := by
  have := (pendTo_pre (s := s) (k := i + 1) (m := j) (by omega)).length_le
  rw [pendTo_succ_t hp] at this
  simp at this; omega
theorem pendTo_le {s : Secs} {i j : Nat} (h : i ≤ j) : (pendTo s i).length ≤ (pendTo s j).length := (pendTo_pre h).length_le
theorem setAfter_succ {keep : Nat → Bool} {s : Secs} {y : Nat} {h c : Blk} (hy : s[y]? = some (h, some c)) :
    setAfter keep s ((pendTo s y).length + 1) = if keep (pendTo s y).length then (setAfter keep s (pendTo s y).length).set y (c, some c) else setAfter keep s (pendTo s y).length := by
  have hlt : y < s.length := (List.getElem?_eq_some_iff.1 hy).1
  have hyv : s[y] = (h, some c) := (List.getElem?_eq_some_iff.1 hy).2
  have hpy : isP s y = true := by simp [isP, hy]
  have key : ∀ i, i < s.length → i ≠ y → isP s i = true → ((pendTo s i).length < (pendTo s y).length + 1 ↔ (pendTo s i).length < (pendTo s y).length) := by
    intro i hi hne hp
    rcases Nat.lt_trichotomy i y with h1 | h1 | h1
    · have := pendTo_lt h1 hp; omega
    · exact absurd h1 hne
    · have := pendTo_lt h1 hpy; omega
  apply List.ext_getElem
  · split <;> simp [setAfter]
  · intro i h1 h2
    have hi : i < s.length := by simpa [setAfter] using h1
    by_cases e : i = y
    · subst e
      split
      · rename_i hk
        simp [setAfter, hpy, hk, hyv]
      · rename_i hk
        simp [setAfter, hpy, hk]
    · have hne : y ≠ i := fun h => e h.symm
      have : ∀ (q : Secs) (hq : i < q.length) (v : Blk × Option Blk) (hq2 : i < (q.set y v).length), (q.set y v)[i] = q[i] := fun q hq v hq2 => by rw [List.getElem_set_ne hne]
      cases hp : isP s i with
      | false => split <;> simp [setAfter, hp, List.getElem_set_ne hne]
      | true =>
        have hk := key i hi e hp
        split <;> simp [setAfter, hp, List.getElem_set_ne hne, hk]
theorem SecsOk.setAfter {keep : Nat → Bool} {s : Secs} {m : Nat} (h : SecsOk s) : SecsOk (setAfter keep s m) := by
  have hm : ∀ p ∈ E.setAfter keep s m, ∃ q ∈ s, p.2 = q.2 ∧ (p.1 = q.1 ∨ q.2 = some p.1) := by
    intro p hp
    obtain ⟨i, hi, rfl⟩ := List.mem_iff_getElem.1 hp
    have hi' : i < s.length := by simpa [E.setAfter] using hi
    refine ⟨s[i], List.getElem_mem hi', ?_⟩
    simp only [E.setAfter, List.getElem_mapIdx]
    split
    · refine ⟨rfl, ?_⟩
      cases hc : s[i].2 with
      | none => exact .inl rfl
      | some c => exact .inr rfl
    · exact ⟨rfl, .inl rfl⟩
  refine ⟨by rw [setAfter_length]; exact h.len, by rw [setAfter_length]; exact h.pos, fun p hp => ?_, fun p hp c hc => ?_⟩
  · obtain ⟨q, hq, h1, h2 | h2⟩ := hm p hp
    · rw [h2]; exact h.held q hq
    · exact h.cached q hq _ h2
  · obtain ⟨q, hq, h1, h2⟩ := hm p hp
    exact h.cached q hq c (by rw [← h1]; exact hc)
theorem SecsOk.settled {keep : Nat → Bool} {s : Secs} (h : SecsOk s) : SecsOk (settled keep s) := by
  have h1 := h.setAfter (keep := keep) (m := (pend s).length)
  refine ⟨by rw [settled_length]; exact h.len, by rw [settled_length]; exact h.pos, fun p hp => ?_, fun p hp c hc => ?_⟩
  · obtain ⟨q, hq, rfl⟩ := List.mem_map.1 hp
    exact h1.held q hq
  · obtain ⟨q, hq, rfl⟩ := List.mem_map.1 hp
    cases hc
theorem emptyC_settled {keep s} : emptyC (settled keep s) := fun p hp => by
  obtain ⟨q, hq, rfl⟩ := List.mem_map.1 hp
  rfl
end Go.Proofs.E

namespace Go.Proofs.E
open Go
set_option linter.unusedVariables false
set_option linter.unusedSimpArgs false
set_option linter.unusedSectionVars false
set_option maxRecDepth 4000
set_option maxHeartbeats 1000000
attribute [local irreducible] Yl TL TC TE Spec YSpec R1 Hp.le EnvLe TS TR YS Stays
theorem settle_spec (ρ : Hp) (b : Nat) (hb : HB) (mb : Nat) (es : List MapEntry) (ck : Nat) (s : Secs) (ops armed failing : Int) (dead : Bool) (kf : Nat) (kc : List Value) (Xk : SH) (keep : Nat → Bool) [hkF : Fun Try.prog kf]
    (hK : ∀ nth, nth < 2048 → Spec Try.prog kf ([.int .i64 (nth : Nat)] ++ kc) ρ Xk (fun v ρ' L' => v = .bool (keep nth) ∧ ρ' = ρ ∧ L' = Xk)) (hs : SecsOk s) (hm : MapOk s es) :
    Spec Try.prog 56 [.pointer (some ⟨b, 0, none⟩), .func (.func kf) ⟨[]⟩ ⟨kc⟩] ρ ([[(b, dO hb mb s.length ops armed failing dead)], [(hb.b, .cells ⟨heldC s ++ hb.sp⟩ 66 (0, 0))], [(mb, .map ⟨es⟩ ck)]] ++ Xk)
      (fun v ρ' L' => v = .tuple ⟨[]⟩ ∧ ρ.le ρ' ∧ ∃ mb' ck', L' = [[(b, dO hb mb' s.length ops armed failing dead)], [(hb.b, .cells ⟨heldC (settled keep s) ++ hb.sp⟩ 66 (0, 0))], [(mb', .map ⟨[]⟩ ck')]] ++ Xk) := by
  rw [heldC_settled]
  have hpl := pend_length hs
  have hk := hm.keys
  refine spec_enter Try.func56 rfl rfl rfl fun u R => ?_
  simp only [argsE, List.cons_append, List.nil_append, dO]
  repeat' (first | (refine tl_is (.func 93) ?_; refine qC rfl rfl (pending_spec _ _) ?_; rintro v ρ' L' hle ⟨bx, rfl, rfl, rfl⟩ <;> (try simp only [List.cons_append, List.nil_append, List.append_eq])) | (refine i_op ?_; first | (refine i_qq ?_; refine qQ ?_) | refine qEf ?_) | refine tl_nil ?_ | (refine i_tc ?_; refine qTc ?_) | (refine i_te ?_; refine qTe ?_) | intro _)
  rename_i bd bk bn
  refine tc_rangeFunc (S := [[(bx, .cells ⟨[.pointer (some ⟨b, 0, none⟩)]⟩ 25 (0, 0))], [(b, dO hb mb s.length ops armed failing dead)], [(mb, .map ⟨es⟩ ck)]])
    (L0 := [[(bd, .cells ⟨[.pointer (some ⟨b, 0, none⟩)]⟩ 25 (0, 0))], [(bk, .cells ⟨[.func (.func kf) ⟨[]⟩ ⟨kc⟩]⟩ 118 (0, 0))], [(bn, .cells ⟨[.int .i64 (0 : Nat)]⟩ 3 (0, 0))], [(hb.b, .cells ⟨heldC (setAfter keep s 0) ++ hb.sp⟩ 66 (0, 0))]] ++ Xk) (R := R) (R0 := ?r0) rfl rfl (pending1_iter ρ' b hb mb bx s ops armed failing dead es ck hm hs) (Hp.le_refl _) (fun _ => rfl) rfl
    (fun pre ρ1 Lu => ρ1 = ρ' ∧ Lu = [[(bd, .cells ⟨[.pointer (some ⟨b, 0, none⟩)]⟩ 25 (0, 0))], [(bk, .cells ⟨[.func (.func kf) ⟨[]⟩ ⟨kc⟩]⟩ 118 (0, 0))], [(bn, .cells ⟨[.int .i64 (pre.length : Nat)]⟩ 3 (0, 0))], [(hb.b, .cells ⟨heldC (setAfter keep s pre.length) ++ hb.sp⟩ 66 (0, 0))]] ++ Xk) (fun _ _ _ => False) ?k1 ?k2 ⟨rfl, rfl⟩ ?round ?done ?stop
  case k1 => unfold dO; exact tk
  case k2 => rw [setAfter_zero]; exact tk
  case stop => rintro D0 c ρ' Lu _ hf; exact hf.elim
  case round =>
    rintro l tm r pre y ρ1 Lu u R' hpre hle' ⟨rfl, rfl⟩ hr hrec
    simp only [envP, natE, List.cons_append, List.nil_append]
    have hlen := hpre.length_le
    simp only [List.length_append, List.length_singleton] at hlen
    obtain ⟨hpe, hpy, hy⟩ := filter_range_pre _ _ _ _ hpre
    repeat' (first | (refine i_op ?_; first | (refine i_qq ?_; refine qQ ?_) | refine qEf ?_) | refine tl_nil ?_ | (refine i_tc ?_; refine qTc ?_) | (refine i_te ?_; refine qTe ?_) | intro _)
    refine te_begin rfl hr (fun r' hbz hrec' => ?_)
    have hpl2 : (pendTo s y).length = pre.length := by rw [hpe]; rfl
    obtain ⟨hd0, c, hsy⟩ : ∃ h c, s[y]? = some (h, some c) := by
      simp only [isP, Option.isSome_iff_exists] at hpy
      obtain ⟨c, hc⟩ := hpy
      rw [List.getElem?_eq_getElem hy] at hc ⊢
      simp only [Option.bind_some] at hc
      exact ⟨s[y].1, c, by rw [← hc]⟩
    have hsv : s[y] = (hd0, some c) := (List.getElem?_eq_some_iff.1 hsy).2
    have hat := hm.at hy
    rw [hsv] at hat
    simp only [Option.map_some] at hat
    have hc64 : c.length = 64 := hs.cached s[y] (List.getElem_mem hy) c (by rw [hsv])
    have hcl : (c.map u8c).length = 64 := by simpa using hc64
    have hone := u8c_one c
    have hsa := hs.setAfter (keep := keep) (m := pre.length)
    have hhl : (heldC (setAfter keep s pre.length) ++ hb.sp).length = s.length * 64 + hb.sp.length := by rw [heldC_length' _ hsa.held, setAfter_length]
    have hnext := setAfter_succ (keep := keep) hsy
    rw [hpl2] at hnext
    have hst := stc_heldC' hb.sp (s := setAfter keep s pre.length) (i := y) (b := c) (some c) hsa.held hc64 (by rw [setAfter_length]; exact hy)
    repeat' (first | (refine tl_is (.tmp 9) ?_; refine qC rfl rfl (hK pre.length (by omega)) ?_; rintro v ρ' L' hle ⟨rfl, rfl, hx⟩ <;> (try simp only [List.cons_append, List.nil_append, List.append_eq, hx])) | (refine i_op ?_; first | (refine i_qq ?_; refine qQ ?_) | refine qEf ?_) | refine tl_nil ?_ | (refine i_tc ?_; refine qTc ?_) | (refine i_te ?_; refine qTe ?_) | intro _)
    cases hkp : keep pre.length with
    | false =>
      rw [hkp] at hnext
      simp only [Bool.false_eq_true, if_false] at hnext
      repeat' (first | (refine i_op ?_; first | (refine i_qq ?_; refine qQ ?_) | refine qEf ?_) | refine tl_nil ?_ | (refine i_tc ?_; refine qTc ?_) | (refine i_te ?_; refine qTe ?_) | intro _)
      refine te_front [(l, .loop r')] ?_
      refine te_next (Lu := [[(bd, .cells ⟨[.pointer (some ⟨b, 0, none⟩)]⟩ 25 (0, 0))], [(bk, .cells ⟨[.func (.func kf) ⟨[]⟩ ⟨kc⟩]⟩ 118 (0, 0))], [(bn, .cells ⟨[.int .i64 (pre.length + 1 : Nat)]⟩ 3 (0, 0))], [(hb.b, .cells ⟨heldC (setAfter keep s pre.length) ++ hb.sp⟩ 66 (0, 0))]] ++ Xk) rfl (Hp.le_refl _) ⟨hrec'.tmps.trans hrec.tmps, hrec'.params.trans hrec.params, hrec'.assign.trans hrec.assign, hrec'.body.trans hrec.body⟩ tk tk inferInstance ?_
      refine ⟨rfl, ?_⟩
      simp [hnext]
    | true =>
      rw [hkp] at hnext
      simp only [if_true] at hnext
      rw [← hnext] at hst
      repeat' (first | (refine i_op ?_; first | (refine i_qq ?_; refine qQ ?_) | refine qEf ?_) | refine tl_nil ?_ | (refine i_tc ?_; refine qTc ?_) | (refine i_te ?_; refine qTe ?_) | intro _)
      refine tc_draw 12 (by decide +kernel) (by decide +kernel) ?_
      repeat' (first | (refine jMv ?_; refine sMv ?_) | (refine jLd ?_; refine sLd ?_) | (refine jFa ?_; refine sFa ?_) | (refine jNc ?_; refine sNc ?_) | (refine jIa ?_; refine sIa ?_) | (refine jLu ?_; refine sLu ?_) | (refine j_gd ?_; first | refine sWant ?_ | refine sSkip ?_ | refine sSkipU ?_))
      all_goals refine ts_nil ?_
      repeat' (first | (refine i_op ?_; first | (refine i_qq ?_; refine qQ ?_) | refine qEf ?_) | refine tl_nil ?_ | (refine i_tc ?_; refine qTc ?_) | (refine i_te ?_; refine qTe ?_) | intro _)
      rw [Nat.zero_add, hst]
      refine te_front [(l, .loop r')] ?_
      refine te_next (Lu := [[(bd, .cells ⟨[.pointer (some ⟨b, 0, none⟩)]⟩ 25 (0, 0))], [(bk, .cells ⟨[.func (.func kf) ⟨[]⟩ ⟨kc⟩]⟩ 118 (0, 0))], [(bn, .cells ⟨[.int .i64 (pre.length + 1 : Nat)]⟩ 3 (0, 0))], [(hb.b, .cells ⟨heldC (setAfter keep s (pre.length + 1)) ++ hb.sp⟩ 66 (0, 0))]] ++ Xk) rfl (Hp.le_refl _) ⟨hrec'.tmps.trans hrec.tmps, hrec'.params.trans hrec.params, hrec'.assign.trans hrec.assign, hrec'.body.trans hrec.body⟩ tk tk inferInstance ?_
      refine ⟨rfl, ?_⟩
      simp
  case done =>
    rintro D0 ρ1 Lu hle' ⟨rfl, rfl⟩
    simp only [List.cons_append, List.nil_append, dO]
    repeat' (first | (refine i_op ?_; first | (refine i_qq ?_; refine qQ ?_) | refine qEf ?_) | refine tl_nil ?_ | (refine i_tc ?_; refine qTc ?_) | (refine i_te ?_; refine qTe ?_) | intro _)
    exact te_end_d rfl rfl rfl inferInstance (res0 rfl) (Hp.le_refl _) tk (by infer_instance) ⟨rfl, Hp.le_refl _, _, _, rfl⟩
end Go.Proofs.E

namespace Go.Proofs.E
open Go
set_option linter.unusedVariables false
set_option linter.unusedSimpArgs false
set_option linter.unusedSectionVars false
set_option maxRecDepth 4000
set_option maxHeartbeats 1000000
attribute [local irreducible] Yl TL TC TE Spec YSpec R1 Hp.le EnvLe TS TR YS Stays
theorem sync11 (ρ : Hp) (nth : Nat) : Spec Try.prog 122 [.int .i64 (nth : Nat)] ρ [] (fun v ρ' L' => v = .bool true ∧ ρ' = ρ ∧ L' = []) := by
  refine spec_enter Try.func122 rfl rfl rfl fun u R => ?_
  simp only [argsE, List.cons_append, List.nil_append]
  repeat' (first | (refine i_op ?_; first | (refine i_qq ?_; refine qQ ?_) | refine qEf ?_) | refine tl_nil ?_ | (refine i_tc ?_; refine qTc ?_) | (refine i_te ?_; refine qTe ?_) | intro _)
  exact qE ⟨rfl, rfl, rfl⟩
theorem sync2 (ρ : Hp) (X : SH) : Spec Try.prog 123 [] ρ X (fun v ρ' L' => v = .tuple ⟨[]⟩ ∧ ρ' = ρ ∧ L' = X) := by
  refine spec_enter Try.func123 rfl rfl rfl fun u R => ?_
  simp only [argsE, List.cons_append, List.nil_append]
  repeat' (first | (refine i_op ?_; first | (refine i_qq ?_; refine qQ ?_) | refine qEf ?_) | refine tl_nil ?_ | (refine i_tc ?_; refine qTc ?_) | (refine i_te ?_; refine qTe ?_) | intro _)
  exact te_end rfl rfl rfl (res0 rfl) (Hp.le_refl _) take_app' (by infer_instance) ⟨rfl, rfl, rfl⟩
theorem sync1 (ρ : Hp) (b : Nat) (hb : HB) (mb bx : Nat) (es : List MapEntry) (ck : Nat) (s : Secs) (ops armed failing : Int) (dead : Bool) (hs : SecsOk s) (hm : MapOk s es) :
    Spec Try.prog 121 [.pointer (some ⟨bx, 0, none⟩)] ρ ([(b, dO hb mb s.length ops armed failing dead)] :: [[(hb.b, .cells ⟨heldC s ++ hb.sp⟩ 66 (0, 0))], [(mb, .map ⟨es⟩ ck)], [(bx, .cells ⟨[.pointer (some ⟨b, 0, none⟩)]⟩ 25 (0, 0))]])
      (fun v ρ' L' => v = .tuple ⟨[]⟩ ∧ ρ.le ρ' ∧ ∃ mb' ck', L' = [[(b, dO hb mb' s.length ops armed failing dead)], [(hb.b, .cells ⟨heldC (settled (fun _ => true) s) ++ hb.sp⟩ 66 (0, 0))], [(mb', .map ⟨[]⟩ ck')]]) := by
  refine spec_enter Try.func121 rfl rfl rfl fun u R => ?_
  simp only [argsE, List.cons_append, List.nil_append]
  repeat' (first | (refine tl_is (.func 56) ?_; refine qC rfl rfl (settle_spec _ _ _ _ _ _ _ _ _ _ _ 122 [] [] (fun _ => true) (fun nth _ => sync11 _ nth) hs hm) ?_; rintro v ρ' L' hle ⟨rfl, hle2, mb', ck', rfl⟩ <;> (try simp only [List.cons_append, List.nil_append, List.append_eq])) | (refine i_op ?_; first | (refine i_qq ?_; refine qQ ?_) | refine qEf ?_) | refine tl_nil ?_ | (refine i_tc ?_; refine qTc ?_) | (refine i_te ?_; refine qTe ?_) | intro _)
  exact te_end rfl rfl rfl (res0 rfl) hle2 tk (by infer_instance) ⟨rfl, hle2, mb', ck', rfl⟩
/-- what a Sync comes to -/
def DS.sync (D : DS) : DS × Int :=
  if D.dead then (D, 9)
  else if D.armed = 0 then ({ D.tick with dead := true }, 9)
  else if D.failing = 0 then (D.tick, 8)
  else ({ D.tick with armed := cnt D.armed, secs := settled (fun _ => true) D.secs }, 0)
theorem dsync_spec (ρ : Hp) (b : Nat) (hb : HB) (mb : Nat) (es : List MapEntry) (ck : Nat) (D : DS) (hD : D.Ok) (hm : MapOk D.secs es) :
    Spec Try.prog 87 [.pointer (some ⟨b, 0, none⟩)] ρ (diskL b hb mb es ck D)
      (fun v ρ' L' => v = .int .i64 D.sync.2 ∧ ρ.le ρ' ∧ ∃ mb' es' ck', MapOk D.sync.1.secs es' ∧ L' = diskL b hb mb' es' ck' D.sync.1) := by
  obtain ⟨s, ops, armed, failing, dead⟩ := D
  obtain ⟨hs, a1, a2, f1, f2⟩ := hD
  dsimp only at hs a1 a2 f1 f2 hm
  have hpos : (0 : Int) < s.length := by have := hs.pos; omega
  cases dead with
  | true =>
    have he : DS.sync ⟨s, ops, armed, failing, true⟩ = (⟨s, ops, armed, failing, true⟩, 9) := by simp [DS.sync]
    simp only [he]
    refine spec_enter Try.func87 rfl rfl rfl fun u R => ?_
    simp only [argsE, List.cons_append, List.nil_append, diskL]
    repeat' (first | (refine tl_is (.func 67) ?_; refine qC rfl rfl (does_dead _ _ _ _ _ _ _ _ _ _ _) ?_; rintro v ρ' L' hle ⟨rfl, rfl, rfl⟩ <;> (try simp only [List.cons_append, List.nil_append, List.append_eq])) | (refine i_op ?_; first | (refine i_qq ?_; refine qQ ?_) | refine qEf ?_) | refine tl_nil ?_ | (refine i_tc ?_; refine qTc ?_) | (refine i_te ?_; refine qTe ?_) | intro _)
    exact qE ⟨rfl, Hp.le_refl _, mb, es, ck, hm, rfl⟩
  | false =>
    by_cases ha : armed = 0
    · subst ha
      have he : DS.sync ⟨s, ops, 0, failing, false⟩ = (⟨s, IntKind.i64.wrap (ops + 1), 0, cnt failing, true⟩, 9) := by simp [DS.sync, DS.tick]
      simp only [he]
      refine spec_enter Try.func87 rfl rfl rfl fun u R => ?_
      simp only [argsE, List.cons_append, List.nil_append, diskL]
      repeat' (first | (refine tl_is (.func 67) ?_; refine qC rfl rfl (does_dies _ _ _ _ _ _ _ _ _ _ _ [] _ (Int.le_refl 0) hpos f1 f2 (sync2 _ _)) ?_; rintro v ρ' L' hle ⟨rfl, v0, h0, rfl, rfl⟩ <;> (try simp only [List.cons_append, List.nil_append, List.append_eq])) | (refine i_op ?_; first | (refine i_qq ?_; refine qQ ?_) | refine qEf ?_) | refine tl_nil ?_ | (refine i_tc ?_; refine qTc ?_) | (refine i_te ?_; refine qTe ?_) | intro _)
      exact qE ⟨rfl, Hp.le_refl _, mb, es, ck, hm, rfl⟩
    · by_cases hf : failing = 0
      · subst hf
        have he : DS.sync ⟨s, ops, armed, 0, false⟩ = (⟨s, IntKind.i64.wrap (ops + 1), armed, -1, false⟩, 8) := by simp [DS.sync, DS.tick, ha, cnt]
        simp only [he]
        refine spec_enter Try.func87 rfl rfl rfl fun u R => ?_
        simp only [argsE, List.cons_append, List.nil_append, diskL]
        repeat' (first | (refine tl_is (.func 67) ?_; refine qC rfl rfl (does_fail_w _ _ _ _ _ _ _ _ _ _ _ (Int.le_refl 0) hpos ha) ?_; rintro v ρ' L' hle ⟨rfl, rfl, rfl⟩ <;> (try simp only [List.cons_append, List.nil_append, List.append_eq])) | (refine i_op ?_; first | (refine i_qq ?_; refine qQ ?_) | refine qEf ?_) | refine tl_nil ?_ | (refine i_tc ?_; refine qTc ?_) | (refine i_te ?_; refine qTe ?_) | intro _)
        exact qE ⟨rfl, Hp.le_refl _, mb, es, ck, hm, rfl⟩
      · have he : DS.sync ⟨s, ops, armed, failing, false⟩ = (⟨settled (fun _ => true) s, IntKind.i64.wrap (ops + 1), cnt armed, cnt failing, false⟩, 0) := by simp [DS.sync, DS.tick, ha, hf]
        simp only [he]
        refine spec_enter Try.func87 rfl rfl rfl fun u R => ?_
        simp only [argsE, List.cons_append, List.nil_append, diskL, settled_length]
        repeat' (first | (refine tl_is (.func 67) ?_; refine qC rfl rfl (does_ok_w _ _ _ _ _ _ _ _ _ _ _ _ _ _ _ (Int.le_refl 0) hpos hf f1 f2 ha a1 a2 (sync1 _ _ _ _ _ es ck s _ _ _ _ hs hm)) ?_; rintro v ρ' L' hle ⟨rfl, v0, h0, hle2, mb', ck', rfl⟩ <;> (try simp only [List.cons_append, List.nil_append, List.append_eq])) | (refine i_op ?_; first | (refine i_qq ?_; refine qQ ?_) | refine qEf ?_) | refine tl_nil ?_ | (refine i_tc ?_; refine qTc ?_) | (refine i_te ?_; refine qTe ?_) | intro _)
        exact te_end rfl rfl rfl (res1 rfl (r1_tmp rfl)) hle2 tk (by infer_instance) ⟨rfl, hle2, mb', [], ck', MapOk.empty emptyC_settled, rfl⟩
def DS.crash (keep : Nat → Bool) (D : DS) : DS := ⟨settled keep D.secs, D.ops, -1, -1, false⟩
theorem crash_spec (ρ : Hp) (b : Nat) (hb : HB) (mb : Nat) (es : List MapEntry) (ck : Nat) (D : DS) (hD : D.Ok) (hm : MapOk D.secs es) (ka : Option Addr) (kn kp : Nat) (X : SH) (keep : Nat → Bool)
    (hK : ∀ bk nth, nth < 2048 → Spec Try.prog 57 [.int .i64 (nth : Nat), .pointer (some ⟨bk, 0, none⟩)] ρ ([(bk, .cells ⟨[.slice ka kn kp]⟩ 43 (0, 0))] :: X) (fun v ρ' L' => v = .bool (keep nth) ∧ ρ' = ρ ∧ L' = [(bk, .cells ⟨[.slice ka kn kp]⟩ 43 (0, 0))] :: X)) :
    Spec Try.prog 22 [.pointer (some ⟨b, 0, none⟩), .slice ka kn kp] ρ (diskL b hb mb es ck D ++ X)
      (fun v ρ' L' => v = .int .i64 0 ∧ ρ.le ρ' ∧ ∃ mb' ck', L' = diskL b hb mb' [] ck' (D.crash keep) ++ X) := by
  obtain ⟨s, ops, armed, failing, dead⟩ := D
  obtain ⟨hs, a1, a2, f1, f2⟩ := hD
  dsimp only at hs a1 a2 f1 f2 hm
  have hpos := hs.pos
  refine spec_enter Try.func22 rfl rfl rfl fun u R => ?_
  simp only [argsE, List.cons_append, List.nil_append, diskL, DS.crash, settled_length]
  repeat' (first | (refine tl_is (.func 56) ?_; refine tl_call rfl rfl (settle_spec _ _ _ _ _ _ _ _ _ _ _ 57 [.pointer (some ⟨_, 0, none⟩)] ([(_, .cells ⟨[.slice ka kn kp]⟩ 43 (0, 0))] :: X) keep (fun nth h => hK _ nth h) hs hm) tk rfl ?_; rintro v ρ' L' hle ⟨rfl, hle2, mb', ck', rfl⟩; simp only [List.cons_append, List.nil_append, dO]) | (refine i_op ?_; first | (refine i_qq ?_; refine qQ ?_) | refine qEf ?_) | refine tl_nil ?_ | (refine i_tc ?_; refine qTc ?_) | (refine i_te ?_; refine qTe ?_) | intro _)
  exact te_end rfl rfl rfl (res1 rfl (r1_tmp rfl)) hle2 tk (by infer_instance) ⟨rfl, hle2, mb', ck', rfl⟩
/-! ## what a Crash keeps, by a list of flags -/
def keepB (ks : List Bool) (nth : Nat) : Bool := ks[nth]?.getD false
theorem crash1_over (ρ : Hp) (bk nth : Nat) (ka : Option Addr) (kn kp : Nat) (X : SH) (h : kn ≤ nth) : Spec Try.prog 57 [.int .i64 (nth : Nat), .pointer (some ⟨bk, 0, none⟩)] ρ ([(bk, .cells ⟨[.slice ka kn kp]⟩ 43 (0, 0))] :: X) (fun v ρ' L' => v = .bool false ∧ ρ' = ρ ∧ L' = [(bk, .cells ⟨[.slice ka kn kp]⟩ 43 (0, 0))] :: X) := by
  refine spec_enter Try.func57 rfl rfl rfl fun u R => ?_
  simp only [argsE, List.cons_append, List.nil_append]
  repeat' (first | (refine i_op ?_; first | (refine i_qq ?_; refine qQ ?_) | refine qEf ?_) | refine tl_nil ?_ | (refine i_tc ?_; refine qTc ?_) | (refine i_te ?_; refine qTe ?_) | intro _)
  exact te_end rfl rfl rfl (res1 rfl (r1_tmp rfl)) (Hp.le_refl _) (take_cons' rem_here' take_app') (by infer_instance) ⟨rfl, rfl, rfl⟩
theorem crash1_at (ρ : Hp) (bk nth kb o kn kp : Nat) (C : List Value) (T : TypeId) (fr : Nat × Nat) (f : Bool) (h : nth < kn) (hc : C[o + nth * 1]? = some (.bool f)) : Spec Try.prog 57 [.int .i64 (nth : Nat), .pointer (some ⟨bk, 0, none⟩)] ρ [[(bk, .cells ⟨[.slice (some ⟨kb, o, none⟩) kn kp]⟩ 43 (0, 0))], [(kb, .cells ⟨C⟩ T fr)]] (fun v ρ' L' => v = .bool f ∧ ρ' = ρ ∧ L' = [[(bk, .cells ⟨[.slice (some ⟨kb, o, none⟩) kn kp]⟩ 43 (0, 0))], [(kb, .cells ⟨C⟩ T fr)]]) := by
  refine spec_enter Try.func57 rfl rfl rfl fun u R => ?_
  simp only [argsE, List.cons_append, List.nil_append]
  repeat' (first | (refine i_op ?_; first | (refine i_qq ?_; refine qQ ?_) | refine qEf ?_) | refine tl_nil ?_ | (refine i_tc ?_; refine qTc ?_) | (refine i_te ?_; refine qTe ?_) | intro _)
  exact te_end rfl rfl rfl (res1 rfl (r1_tmp rfl)) (Hp.le_refl _) tk (by infer_instance) ⟨rfl, rfl, rfl⟩
theorem crash1_imm (ρ : Hp) (bk nth kb o kn kp : Nat) (C : List Value) (T : TypeId) (fr : Nat × Nat) (f : Bool) (h : nth < kn) (hc : C[o + nth * 1]? = some (.bool f)) (hb : ρ kb = some (.cells ⟨C⟩ T fr)) : Spec Try.prog 57 [.int .i64 (nth : Nat), .pointer (some ⟨bk, 0, none⟩)] ρ [[(bk, .cells ⟨[.slice (some ⟨kb, o, none⟩) kn kp]⟩ 43 (0, 0))]] (fun v ρ' L' => v = .bool f ∧ ρ' = ρ ∧ L' = [[(bk, .cells ⟨[.slice (some ⟨kb, o, none⟩) kn kp]⟩ 43 (0, 0))]]) := by
  refine spec_enter Try.func57 rfl rfl rfl fun u R => ?_
  simp only [argsE, List.cons_append, List.nil_append]
  repeat' (first | (refine i_op ?_; first | (refine i_qq ?_; refine qQ ?_) | refine qEf ?_) | refine tl_nil ?_ | (refine i_tc ?_; refine qTc ?_) | (refine i_te ?_; refine qTe ?_) | intro _)
  exact te_end rfl rfl rfl (res1 rfl (r1_tmp rfl)) (Hp.le_refl _) tk (by infer_instance) ⟨rfl, rfl, rfl⟩
end Go.Proofs.E

namespace Go.Proofs.E
open Go
set_option linter.unusedVariables false
set_option linter.unusedSimpArgs false
set_option linter.unusedSectionVars false
set_option maxRecDepth 4000
set_option maxHeartbeats 1000000
attribute [local irreducible] Yl TL TC TE Spec YSpec R1 Hp.le EnvLe TS TR YS Stays
def DS.arm (D : DS) (n : Int) : DS × Int := if D.dead then (D, 9) else ({ D with armed := max n (-1) }, 0)
def DS.fail (D : DS) (n : Int) : DS × Int := if D.dead then (D, 9) else ({ D with failing := max n (-1) }, 0)
theorem arm_spec (ρ : Hp) (b : Nat) (hb : HB) (mb n : Nat) (ops armed failing k : Int) (dead : Bool) : Spec Try.prog 18 [.pointer (some ⟨b, 0, none⟩), .int .i64 k] ρ [[(b, dO hb mb n ops armed failing dead)]]
    (fun v ρ' L' => v = .int .i64 (if dead then 9 else 0) ∧ ρ' = ρ ∧ L' = [[(b, dO hb mb n ops (if dead then armed else max k (-1)) failing dead)]]) := by
  cases dead with
  | true =>
    simp only [if_true]
    refine spec_enter Try.func18 rfl rfl rfl fun u R => ?_
    simp only [argsE, List.cons_append, List.nil_append]
    repeat' (first | (refine tl_is (.func 55) ?_; refine qC rfl rfl (lives_dead _ _ _ _ _ _ _ _) ?_; rintro v ρ' L' hle ⟨rfl, rfl, rfl⟩ <;> (try simp only [List.cons_append, List.nil_append, List.append_eq])) | (refine i_op ?_; first | (refine i_qq ?_; refine qQ ?_) | refine qEf ?_) | refine tl_nil ?_ | (refine i_tc ?_; refine qTc ?_) | (refine i_te ?_; refine qTe ?_) | intro _)
    exact qE ⟨rfl, rfl, rfl⟩
  | false =>
    simp only [Bool.false_eq_true, if_false]
    refine spec_enter Try.func18 rfl rfl rfl fun u R => ?_
    simp only [argsE, List.cons_append, List.nil_append]
    repeat' (first | (refine tl_is (.func 55) ?_; refine qC rfl rfl (lives_ok _ _ _ _ _ _ _ _) ?_; rintro v ρ' L' hle ⟨rfl, rfl, rfl⟩ <;> (try simp only [List.cons_append, List.nil_append, List.append_eq, dO])) | (refine i_op ?_; first | (refine i_qq ?_; refine qQ ?_) | refine qEf ?_) | refine tl_nil ?_ | (refine i_tc ?_; refine qTc ?_) | (refine i_te ?_; refine qTe ?_) | intro _)
    exact qE ⟨rfl, rfl, rfl⟩
theorem fail_spec (ρ : Hp) (b : Nat) (hb : HB) (mb n : Nat) (ops armed failing k : Int) (dead : Bool) : Spec Try.prog 19 [.pointer (some ⟨b, 0, none⟩), .int .i64 k] ρ [[(b, dO hb mb n ops armed failing dead)]]
    (fun v ρ' L' => v = .int .i64 (if dead then 9 else 0) ∧ ρ' = ρ ∧ L' = [[(b, dO hb mb n ops armed (if dead then failing else max k (-1)) dead)]]) := by
  cases dead with
  | true =>
    simp only [if_true]
    refine spec_enter Try.func19 rfl rfl rfl fun u R => ?_
    simp only [argsE, List.cons_append, List.nil_append]
    repeat' (first | (refine tl_is (.func 55) ?_; refine qC rfl rfl (lives_dead _ _ _ _ _ _ _ _) ?_; rintro v ρ' L' hle ⟨rfl, rfl, rfl⟩ <;> (try simp only [List.cons_append, List.nil_append, List.append_eq])) | (refine i_op ?_; first | (refine i_qq ?_; refine qQ ?_) | refine qEf ?_) | refine tl_nil ?_ | (refine i_tc ?_; refine qTc ?_) | (refine i_te ?_; refine qTe ?_) | intro _)
    exact qE ⟨rfl, rfl, rfl⟩
  | false =>
    simp only [Bool.false_eq_true, if_false]
    refine spec_enter Try.func19 rfl rfl rfl fun u R => ?_
    simp only [argsE, List.cons_append, List.nil_append]
    repeat' (first | (refine tl_is (.func 55) ?_; refine qC rfl rfl (lives_ok _ _ _ _ _ _ _ _) ?_; rintro v ρ' L' hle ⟨rfl, rfl, rfl⟩ <;> (try simp only [List.cons_append, List.nil_append, List.append_eq, dO])) | (refine i_op ?_; first | (refine i_qq ?_; refine qQ ?_) | refine qEf ?_) | refine tl_nil ?_ | (refine i_tc ?_; refine qTc ?_) | (refine i_te ?_; refine qTe ?_) | intro _)
    exact qE ⟨rfl, rfl, rfl⟩
theorem dead_spec (ρ : Hp) (b : Nat) (hb : HB) (mb n : Nat) (ops armed failing : Int) (dead : Bool) : Spec Try.prog 63 [.pointer (some ⟨b, 0, none⟩)] ρ [[(b, dO hb mb n ops armed failing dead)]]
    (fun v ρ' L' => v = .bool dead ∧ ρ' = ρ ∧ L' = [[(b, dO hb mb n ops armed failing dead)]]) := by
  refine spec_enter Try.func63 rfl rfl rfl fun u R => ?_
  simp only [argsE, List.cons_append, List.nil_append, dO]
  repeat' (first | (refine i_op ?_; first | (refine i_qq ?_; refine qQ ?_) | refine qEf ?_) | refine tl_nil ?_ | (refine i_tc ?_; refine qTc ?_) | (refine i_te ?_; refine qTe ?_) | intro _)
  exact qE ⟨rfl, rfl, rfl⟩
theorem len_spec (ρ : Hp) (b : Nat) (hb : HB) (mb n : Nat) (ops armed failing : Int) (dead : Bool) : Spec Try.prog 53 [.pointer (some ⟨b, 0, none⟩)] ρ [[(b, dO hb mb n ops armed failing dead)]]
    (fun v ρ' L' => v = .int .i64 (n : Nat) ∧ ρ' = ρ ∧ L' = [[(b, dO hb mb n ops armed failing dead)]]) := by
  refine spec_enter Try.func53 rfl rfl rfl fun u R => ?_
  simp only [argsE, List.cons_append, List.nil_append, dO]
  repeat' (first | (refine i_op ?_; first | (refine i_qq ?_; refine qQ ?_) | refine qEf ?_) | refine tl_nil ?_ | (refine i_tc ?_; refine qTc ?_) | (refine i_te ?_; refine qTe ?_) | intro _)
  exact qE ⟨rfl, rfl, rfl⟩
theorem ops_spec (ρ : Hp) (b : Nat) (hb : HB) (mb n : Nat) (ops armed failing : Int) (dead : Bool) : Spec Try.prog 34 [.pointer (some ⟨b, 0, none⟩)] ρ [[(b, dO hb mb n ops armed failing dead)]]
    (fun v ρ' L' => v = .int .i64 ops ∧ ρ' = ρ ∧ L' = [[(b, dO hb mb n ops armed failing dead)]]) := by
  refine spec_enter Try.func34 rfl rfl rfl fun u R => ?_
  simp only [argsE, List.cons_append, List.nil_append, dO]
  repeat' (first | (refine i_op ?_; first | (refine i_qq ?_; refine qQ ?_) | refine qEf ?_) | refine tl_nil ?_ | (refine i_tc ?_; refine qTc ?_) | (refine i_te ?_; refine qTe ?_) | intro _)
  exact qE ⟨rfl, rfl, rfl⟩
def fresh (n : Nat) : Secs := List.replicate n (zblk, none)
def DS.new (n : Nat) : DS := ⟨fresh n, 0, -1, -1, false⟩
theorem fresh_ok {n : Nat} (h0 : 0 < n) (h1 : n ≤ 2048) : SecsOk (fresh n) := by
  refine ⟨by simpa [fresh] using h1, by simpa [fresh] using h0, fun p hp => ?_, fun p hp c hc => ?_⟩ <;> (obtain ⟨_, rfl⟩ := List.mem_replicate.1 hp)
  · rfl
  · cases hc
theorem fresh_empty {n : Nat} : emptyC (fresh n) := fun p hp => by obtain ⟨_, rfl⟩ := List.mem_replicate.1 hp; rfl
theorem madeCells_rep (x : Value) (m : Nat) : ∀ n, 0 < m → madeCells ⟨List.replicate m x⟩ n = ⟨List.replicate n x⟩ := by
  intro n hm
  apply Array.ext
  · simp [madeCells]
  · intro i h1 h2
    have h3 : i % m < m := Nat.mod_lt _ hm
    simp [madeCells, h3]
theorem heldC_fresh (n : Nat) : heldC (fresh n) = List.replicate (n * 64) (.int .u8 0) := by
  unfold heldC fresh
  rw [List.map_replicate]
  have : zblk.map u8c = List.replicate 64 (Value.int .u8 0) := by rfl
  rw [this, List.flatten_replicate_replicate]
theorem new_spec (ρ : Hp) (n : Nat) (h0 : 0 < n) (h1 : n ≤ 2048) : Spec Try.prog 23 [.int .i64 (n : Nat)] ρ [] (fun v ρ' L' => ρ' = ρ ∧ ∃ b hb mb ck, v = .tuple ⟨[.pointer (some ⟨b, 0, none⟩), .int .i64 0]⟩ ∧ L' = diskL b hb mb [] ck (DS.new n)) := by
  refine spec_enter Try.func23 rfl rfl rfl fun u R => ?_
  have hl : (DS.new n).secs.length = n := by simp [DS.new, fresh]
  simp only [argsE, List.cons_append, List.nil_append, diskL, hl]
  simp only [DS.new, heldC_fresh]
  repeat' (first | (refine tl_makeSlice rfl rfl (by omega) (by omega) (by omega) (by omega) rfl (fun hbn => ?_); simp only [Value.cells, madeCells_rep _ 64 _ (by decide), Int.toNat_natCast]) | (refine i_op ?_; first | (refine i_qq ?_; refine qQ ?_) | refine qEf ?_) | refine tl_nil ?_ | (refine i_tc ?_; refine qTc ?_) | (refine i_te ?_; refine qTe ?_) | intro _)
  rename_i bm bd
  refine qE (L' := [[(bd, .cells _ 116 (0, 0))], [(hbn, _)], [(bm, .map _ _)]]) ⟨rfl, bd, ⟨hbn, n, []⟩, bm, 0, rfl, ?_⟩
  simp only [List.append_nil]
  rfl
theorem Hp.le_get {ρ ρ' : Hp} (h : ρ.le ρ') {b : Nat} {o : Obj} (hb : ρ b = some o) : ρ' b = some o := hp_get h hb

def bb (f : Bool) : Value := .bool f
theorem bb_one (l : List Bool) : (l.map bb).all (·.oneCell') = true := by
  rw [List.all_eq_true]; intro v hv; obtain ⟨b, _, rfl⟩ := List.mem_map.1 hv; rfl
/-- flags that lie in what the call was handed -/
structure KeepIn (ρ : Hp) (ka : Option Addr) (kn kp : Nat) (ks : List Bool) : Prop where
  le : kn ≤ kp
  len : ks.length = kn
  big : kn ≤ 9223372036854775807
  out : kn = 0 ∨ ∃ kb off C T fr, ka = some ⟨kb, off, none⟩ ∧ ρ kb = some (.cells ⟨C⟩ T fr) ∧ (C.drop off).take kn = ks.map bb
theorem KeepIn.mono {ρ ρ' : Hp} {ka kn kp ks} (h : KeepIn ρ ka kn kp ks) (hle : ρ.le ρ') : KeepIn ρ' ka kn kp ks :=
  ⟨h.le, h.len, h.big, by
    rcases h.out with h0 | ⟨kb, off, C, T, fr, h1, h2, h3⟩
    · exact .inl h0
    · exact .inr ⟨kb, off, C, T, fr, h1, Hp.le_get hle h2, h3⟩⟩
theorem crash1_own (ρ : Hp) (a : Option Addr) (n cap : Nat) (ks : List Bool) (sp : List Value) (hn : n = ks.length) (h : OwnS (.slice a n cap) n (ks.map bb) sp 1) (bk nth : Nat) : Spec Try.prog 57 [.int .i64 (nth : Nat), .pointer (some ⟨bk, 0, none⟩)] ρ ([(bk, .cells ⟨[.slice a n cap]⟩ 43 (0, 0))] :: [ownC (.slice a n cap) (ks.map bb) sp 4]) (fun v ρ' L' => v = .bool (keepB ks nth) ∧ ρ' = ρ ∧ L' = [(bk, .cells ⟨[.slice a n cap]⟩ 43 (0, 0))] :: [ownC (.slice a n cap) (ks.map bb) sp 4]) := by
  by_cases hlt : nth < n
  · rcases h.out with ⟨h1, h2, h3, h4⟩ | ⟨b, c, h1, h2, h3, h4⟩
    · omega
    · cases h1
      refine crash1_at ρ bk nth b 0 n cap (ks.map bb ++ sp) 4 (0, 0) (keepB ks nth) hlt ?_
      have h5 : nth < ks.length := by omega
      rw [Nat.zero_add, Nat.mul_one, List.getElem?_append_left (by simpa using h5)]
      simp [keepB, bb, h5]
  · have : keepB ks nth = false := by
      have : ks[nth]? = none := List.getElem?_eq_none (by omega)
      simp [keepB, this]
    rw [this]
    exact crash1_over ρ bk nth a n cap _ (by omega)
theorem MapOk.arm {D : DS} {es n} (h : MapOk D.secs es) : MapOk (D.arm n).1.secs es := by unfold DS.arm; split <;> exact h
theorem MapOk.fail {D : DS} {es n} (h : MapOk D.secs es) : MapOk (D.fail n).1.secs es := by unfold DS.fail; split <;> exact h
theorem arm_disk (ρ : Hp) (b : Nat) (hb : HB) (mb : Nat) (es : List MapEntry) (ck : Nat) (D : DS) (k : Int) : Spec Try.prog 18 [.pointer (some ⟨b, 0, none⟩), .int .i64 k] ρ (diskL b hb mb es ck D) (fun v ρ' L' => v = .int .i64 (D.arm k).2 ∧ ρ' = ρ ∧ L' = diskL b hb mb es ck (D.arm k).1) := by
  refine ((arm_spec ρ b hb mb D.secs.length D.ops D.armed D.failing k D.dead).frame [[(hb.b, .cells ⟨heldC D.secs ++ hb.sp⟩ 66 (0, 0))], [(mb, .map ⟨es⟩ ck)]]).mono ?_
  rintro v ρ' L' _ ⟨L1, rfl, rfl, rfl, rfl⟩
  obtain ⟨s, o, a, f, d⟩ := D
  cases d <;> exact ⟨rfl, rfl, rfl⟩
theorem fail_disk (ρ : Hp) (b : Nat) (hb : HB) (mb : Nat) (es : List MapEntry) (ck : Nat) (D : DS) (k : Int) : Spec Try.prog 19 [.pointer (some ⟨b, 0, none⟩), .int .i64 k] ρ (diskL b hb mb es ck D) (fun v ρ' L' => v = .int .i64 (D.fail k).2 ∧ ρ' = ρ ∧ L' = diskL b hb mb es ck (D.fail k).1) := by
  refine ((fail_spec ρ b hb mb D.secs.length D.ops D.armed D.failing k D.dead).frame [[(hb.b, .cells ⟨heldC D.secs ++ hb.sp⟩ 66 (0, 0))], [(mb, .map ⟨es⟩ ck)]]).mono ?_
  rintro v ρ' L' _ ⟨L1, rfl, rfl, rfl, rfl⟩
  obtain ⟨s, o, a, f, d⟩ := D
  cases d <;> exact ⟨rfl, rfl, rfl⟩
theorem len_disk (ρ : Hp) (b : Nat) (hb : HB) (mb : Nat) (es : List MapEntry) (ck : Nat) (D : DS) : Spec Try.prog 53 [.pointer (some ⟨b, 0, none⟩)] ρ (diskL b hb mb es ck D) (fun v ρ' L' => v = .int .i64 (D.secs.length : Nat) ∧ ρ' = ρ ∧ L' = diskL b hb mb es ck D) := by
  refine ((len_spec ρ b hb mb D.secs.length D.ops D.armed D.failing D.dead).frame [[(hb.b, .cells ⟨heldC D.secs ++ hb.sp⟩ 66 (0, 0))], [(mb, .map ⟨es⟩ ck)]]).mono ?_
  rintro v ρ' L' _ ⟨L1, rfl, rfl, rfl, rfl⟩
  exact ⟨rfl, rfl, rfl⟩
theorem dead_disk (ρ : Hp) (b : Nat) (hb : HB) (mb : Nat) (es : List MapEntry) (ck : Nat) (D : DS) : Spec Try.prog 63 [.pointer (some ⟨b, 0, none⟩)] ρ (diskL b hb mb es ck D) (fun v ρ' L' => v = .bool D.dead ∧ ρ' = ρ ∧ L' = diskL b hb mb es ck D) := by
  refine ((dead_spec ρ b hb mb D.secs.length D.ops D.armed D.failing D.dead).frame [[(hb.b, .cells ⟨heldC D.secs ++ hb.sp⟩ 66 (0, 0))], [(mb, .map ⟨es⟩ ck)]]).mono ?_
  rintro v ρ' L' _ ⟨L1, rfl, rfl, rfl, rfl⟩
  exact ⟨rfl, rfl, rfl⟩
theorem read_len {D : DS} (hD : D.Ok) (i : Int) : (D.read i).2.1.length = 64 := by
  unfold DS.read
  split
  · rfl
  · split
    · rfl
    · split
      · rfl
      · rename_i h1 h2 h3
        have hlt : i.toNat < D.secs.length := by omega
        simp only [List.getElem?_eq_getElem hlt, Option.getD_some]
        unfold says1
        cases hc : D.secs[i.toNat].2 with
        | none => exact hD.secs.held _ (List.getElem_mem hlt)
        | some c => exact hD.secs.cached _ (List.getElem_mem hlt) c hc
theorem read_secs {D : DS} (i : Int) : (D.read i).1.secs = D.secs := by
  unfold DS.read
  split
  · rfl
  · split
    · rfl
    · split <;> rfl
theorem MapOk.read {D : DS} {es i} (h : MapOk D.secs es) : MapOk (D.read i).1.secs es := by rw [read_secs]; exact h
theorem new_okD {n : Nat} (h0 : 0 < n) (h1 : n ≤ 2048) : (DS.new n).Ok := ⟨fresh_ok h0 h1, by simp [DS.new], by simp [DS.new], by simp [DS.new], by simp [DS.new]⟩
theorem OwnS.pos {v n xs sp sz} (h : OwnS v n xs sp sz) (h0 : 0 < n) : ∃ b cap, v = .slice (some ⟨b, 0, none⟩) n cap := by
  rcases h.out with ⟨_, h2, _⟩ | ⟨b, cap, h1, _⟩
  · omega
  · exact ⟨b, cap, h1⟩
theorem OwnS.full {n : Nat} (b : Nat) (xs : List Value) (h : xs.length = n) : OwnS (.slice (some ⟨b, 0, none⟩) n n) n xs [] 1 := ⟨.inr ⟨b, n, rfl, by omega, by simp; omega, Nat.le_refl _⟩⟩
theorem cnt_lo {n : Int} : -1 ≤ cnt n := by unfold cnt; omega
theorem cnt_hi {n : Int} (h : n ≤ 9223372036854775807) : cnt n ≤ 9223372036854775807 := by unfold cnt; omega
theorem DS.Ok.tick {D : DS} (h : D.Ok) : D.tick.Ok := ⟨h.secs, h.a1, h.a2, cnt_lo, cnt_hi h.f2⟩
theorem DS.Ok.read {D : DS} {i : Int} (h : D.Ok) : (D.read i).1.Ok := by
  unfold DS.read
  split
  · exact h
  · split
    · exact h
    · split <;> exact h.tick
theorem DS.Ok.write {D : DS} {i : Int} {b : Blk} (h : D.Ok) (hb : b.length = 64) : (D.write i b).1.Ok := by
  unfold DS.write
  split
  · exact h
  · split
    · exact h
    · rename_i h1 h2
      have hi : i.toNat < D.secs.length := by omega
      split
      · exact ⟨h.secs.putC hb hi, h.tick.a1, h.tick.a2, h.tick.f1, h.tick.f2⟩
      · split
        · exact h.tick
        · exact ⟨h.secs.putC hb hi, cnt_lo, cnt_hi h.a2, h.tick.f1, h.tick.f2⟩
theorem DS.Ok.sync {D : DS} (h : D.Ok) : D.sync.1.Ok := by
  unfold DS.sync
  split
  · exact h
  · split
    · exact ⟨h.secs, h.tick.a1, h.tick.a2, h.tick.f1, h.tick.f2⟩
    · split
      · exact h.tick
      · exact ⟨h.secs.settled, cnt_lo, cnt_hi h.a2, h.tick.f1, h.tick.f2⟩
theorem DS.Ok.crash {D : DS} {keep} (h : D.Ok) : (D.crash keep).Ok := ⟨h.secs.settled, by simp [DS.crash], by simp [DS.crash], by simp [DS.crash], by simp [DS.crash]⟩
/-- a disk that is alive, with nothing set to fail -/
structure DS.Calm (D : DS) : Prop where
  dead : D.dead = false
  armed : D.armed = -1
  failing : D.failing = -1
theorem new_calm {n} : (DS.new n).Calm := ⟨rfl, rfl, rfl⟩
theorem DS.Calm.read {D : DS} {i : Int} (h : D.Calm) : (D.read i).1.Calm := by
  obtain ⟨s, o, a, f, d⟩ := D
  obtain ⟨h1, h2, h3⟩ := h
  simp only at h1 h2 h3
  subst h1; subst h2; subst h3
  unfold DS.read
  simp only [Bool.false_eq_true, if_false]
  split
  · exact ⟨rfl, rfl, rfl⟩
  · exact ⟨rfl, rfl, rfl⟩
theorem DS.Calm.write {D : DS} {i : Int} {b : Blk} (h : D.Calm) : (D.write i b).1.Calm := by
  obtain ⟨s, o, a, f, d⟩ := D
  obtain ⟨h1, h2, h3⟩ := h
  simp only at h1 h2 h3
  subst h1; subst h2; subst h3
  unfold DS.write
  simp only [Bool.false_eq_true, if_false]
  split
  · exact ⟨rfl, rfl, rfl⟩
  · exact ⟨rfl, rfl, rfl⟩
theorem DS.Calm.sync_eq {D : DS} (h : D.Calm) : D.sync = (⟨settled (fun _ => true) D.secs, IntKind.i64.wrap (D.ops + 1), -1, -1, false⟩, 0) := by
  obtain ⟨s, o, a, f, d⟩ := D
  obtain ⟨h1, h2, h3⟩ := h
  simp only at h1 h2 h3
  subst h1; subst h2; subst h3
  rfl
end Go.Proofs.E

namespace Go.Proofs.E
open Go
set_option linter.unusedVariables false
set_option linter.unusedSimpArgs false
set_option linter.unusedSectionVars false
set_option maxRecDepth 4000
set_option maxHeartbeats 1000000
attribute [local irreducible] Yl TL TC TE Spec YSpec R1 Hp.le EnvLe TS TR YS Stays
theorem isP_putC {s : Secs} {i j : Nat} {b : Blk} (hi : i < s.length) : isP (putC s i b) j = (isP s j || decide (j = i)) := by
  unfold isP putC
  rw [List.getElem?_set]
  by_cases e : i = j
  · subst e; simp [hi]
  · have : ¬ j = i := fun h => e h.symm
    simp [e, this]
theorem isP_empty {s : Secs} (h : emptyC s) (j : Nat) : isP s j = false := by
  unfold isP
  cases hs : s[j]? with
  | none => rfl
  | some p =>
    have := h p (List.mem_of_getElem? hs)
    simp [this]
theorem filter_eq_one (n i : Nat) (hi : i < n) : (List.range n).filter (fun j => decide (j = i)) = [i] := by
  induction n with
  | zero => omega
  | succ n ih =>
    rw [List.range_succ, List.filter_append]
    by_cases e : i = n
    · subst e
      have : (List.range i).filter (fun j => decide (j = i)) = [] := by
        rw [List.filter_eq_nil_iff]; intro a ha; simp at ha ⊢; omega
      simp [this]
    · rw [ih (by omega)]
      have : ¬ n = i := fun h => e h.symm
      simp [this]
theorem DS.Calm.read_eq {D : DS} {i : Nat} (h : D.Calm) (hi : i < D.secs.length) : D.read i = (⟨D.secs, IntKind.i64.wrap (D.ops + 1), -1, -1, false⟩, says1 D.secs[i], 0) := by
  obtain ⟨s, o, a, f, d⟩ := D
  obtain ⟨h1, h2, h3⟩ := h
  simp only at h1 h2 h3
  subst h1; subst h2; subst h3
  simp only at hi
  have hn : ¬ ((i : Int) < 0 ∨ (s.length : Int) ≤ i) := by omega
  have hc : cnt (-1) = -1 := by decide
  unfold DS.read
  simp only [hn, if_false, Bool.false_eq_true, DS.tick, hc, show ¬ ((-1 : Int) = 0) by decide, Int.toNat_natCast, List.getElem?_eq_getElem hi, Option.getD_some]
theorem DS.Calm.write_eq {D : DS} {i : Nat} {b : Blk} (h : D.Calm) (hi : i < D.secs.length) : D.write i b = (⟨putC D.secs i b, IntKind.i64.wrap (D.ops + 1), -1, -1, false⟩, 0) := by
  obtain ⟨s, o, a, f, d⟩ := D
  obtain ⟨h1, h2, h3⟩ := h
  simp only at h1 h2 h3
  subst h1; subst h2; subst h3
  simp only at hi
  have hn : ¬ ((i : Int) < 0 ∨ (s.length : Int) ≤ i) := by omega
  have hc : cnt (-1) = -1 := by decide
  unfold DS.write
  simp only [hn, if_false, Bool.false_eq_true, DS.tick, hc, show ¬ ((-1 : Int) = 0) by decide, Int.toNat_natCast]
theorem DS.Calm.mk' {s o} : (⟨s, o, -1, -1, false⟩ : DS).Calm := ⟨rfl, rfl, rfl⟩
theorem DS.Ok.mk' {s o} (h : SecsOk s) : (⟨s, o, -1, -1, false⟩ : DS).Ok := ⟨h, by simp, by simp, by simp, by simp⟩
theorem putC_self {s : Secs} {i : Nat} {b : Blk} (hi : i < s.length) (h' : i < (putC s i b).length) : (putC s i b)[i] = (s[i].1, some b) := by
  simp [putC, hi]
theorem settled_at {keep : Nat → Bool} {s : Secs} {i : Nat} (hi : i < s.length) (h' : i < (settled keep s).length) :
    (settled keep s)[i] = (if isP s i && keep (pendTo s i).length then (s[i].2.getD s[i].1, none) else (s[i].1, none)) := by
  have hlt : isP s i = true → (pendTo s i).length < (pend s).length := fun hp => by
    have := (pendTo_pre (s := s) (k := i + 1) (m := s.length) (by omega)).length_le
    rw [pendTo_succ_t hp] at this
    simp only [List.length_append, List.length_singleton] at this
    unfold pend; omega
  simp only [settled, setAfter, List.getElem_map, List.getElem_mapIdx]
  cases hp : isP s i with
  | false => simp
  | true =>
    have := hlt hp
    simp only [this, decide_true, Bool.true_and]
    cases keep (pendTo s i).length <;> simp
theorem says_settled {keep : Nat → Bool} {s : Secs} {i : Nat} (hi : i < s.length) (h' : i < (settled keep s).length) :
    says1 (settled keep s)[i] = if isP s i && keep (pendTo s i).length then says1 s[i] else s[i].1 := by
  rw [settled_at hi]
  split <;> simp [says1]
theorem crash_own (ρ : Hp) (b : Nat) (hb : HB) (mb : Nat) (es : List MapEntry) (ck : Nat) (D : DS) (hD : D.Ok) (hm : MapOk D.secs es) (a : Option Addr) (n cap : Nat) (ks : List Bool) (sp : List Value) (hn : n = ks.length) (h : OwnS (.slice a n cap) n (ks.map bb) sp 1) :
    Spec Try.prog 22 [.pointer (some ⟨b, 0, none⟩), .slice a n cap] ρ (diskL b hb mb es ck D ++ [ownC (.slice a n cap) (ks.map bb) sp 4])
      (fun v ρ' L' => v = .int .i64 0 ∧ ρ.le ρ' ∧ ∃ mb' ck', L' = diskL b hb mb' [] ck' (D.crash (keepB ks)) ++ [ownC (.slice a n cap) (ks.map bb) sp 4]) :=
  crash_spec ρ b hb mb es ck D hD hm a n cap [ownC (.slice a n cap) (ks.map bb) sp 4] (keepB ks) (fun bk nth _ => crash1_own ρ a n cap ks sp hn h bk nth)
/-! ## Copy -/
theorem clone46 (ρ : Hp) (b n cap : Nat) (xs sp : List Value) (hl : xs.length = n * 64) (hn : 0 < n) (hbig : n ≤ 100000) (h1 : xs.all (·.oneCell') = true) :
    Spec Try.prog 78 [.slice (some ⟨b, 0, none⟩) n cap] ρ [[(b, .cells ⟨xs ++ sp⟩ 66 (0, 0))]] (fun v ρ' L' => ρ' = ρ ∧ ∃ sp', OwnS v n xs sp' 64 ∧ L' = [[(b, .cells ⟨xs ++ sp⟩ 66 (0, 0))], ownC v xs sp' 66]) := by
  refine spec_enter Try.func78 rfl rfl rfl fun u R => ?_
  simp only [argsE, List.cons_append, List.nil_append]
  have hsrc : ((xs ++ sp).drop 0).take (n * 64) = xs := by simp [hl]
  repeat' (first | (refine i_op ?_; first | (refine i_qq ?_; refine qQ ?_) | refine qEf ?_) | refine tl_nil ?_ | (refine i_tc ?_; refine qTc ?_) | (refine i_te ?_; refine qTe ?_) | intro _)
  refine tl_append (n := 0) (xs := []) (sp := []) (ys := xs) rfl rfl (OwnS.zero _ 64) (hR := rem_here') (Src.find (n := n * 64) hsrc) hl h1 hn rfl (by omega) (by omega) rfl (fun v' sp' hown' => ?_)
  simp only [Nat.zero_add, List.nil_append] at hown' ⊢
  repeat' (first | (refine i_op ?_; first | (refine i_qq ?_; refine qQ ?_) | refine qEf ?_) | refine tl_nil ?_ | (refine i_tc ?_; refine qTc ?_) | (refine i_te ?_; refine qTe ?_) | intro _)
  exact te_end rfl rfl rfl (res1 rfl (r1_tmp rfl)) (Hp.le_refl _) tk (by infer_instance) ⟨rfl, sp', hown', rfl⟩
theorem mclone47 (ρ : Hp) (b : Nat) (es : Array MapEntry) (ck : Nat) : Spec Try.prog 79 [.map (some b)] ρ [[(b, .map es ck)]] (fun v ρ' L' => ρ' = ρ ∧ ∃ b', v = .map (some b') ∧ L' = [[(b, .map es ck)], [(b', .map es ck)]]) := by
  refine spec_enter Try.func79 rfl rfl rfl fun u R => ?_
  simp only [argsE, List.cons_append, List.nil_append]
  repeat' (first | (refine tl_is (.func 107) ?_; refine tl_mapsClone rfl Try.func107 rfl rfl rfl rfl rfl (fun _ => ?_)) | (refine i_op ?_; first | (refine i_qq ?_; refine qQ ?_) | refine qEf ?_) | refine tl_nil ?_ | (refine i_tc ?_; refine qTc ?_) | (refine i_te ?_; refine qTe ?_) | intro _)
  exact qE ⟨rfl, _, rfl, rfl⟩
theorem copy_nil (ρ : Hp) : Spec Try.prog 36 [.pointer none] ρ [] (fun v ρ' L' => v = .pointer none ∧ ρ' = ρ ∧ L' = []) := by
  refine spec_enter Try.func36 rfl rfl rfl fun u R => ?_
  simp only [argsE, List.cons_append, List.nil_append]
  repeat' (first | (refine i_op ?_; first | (refine i_qq ?_; refine qQ ?_) | refine qEf ?_) | refine tl_nil ?_ | (refine i_tc ?_; refine qTc ?_) | (refine i_te ?_; refine qTe ?_) | intro _)
  exact qE ⟨rfl, rfl, rfl⟩
theorem heldC_one (s : Secs) : (heldC s).all (·.oneCell') = true := by
  unfold heldC
  rw [List.all_flatten, List.all_map, List.all_eq_true]
  intro p _
  exact u8c_one p.1
theorem copy_spec (ρ : Hp) (b : Nat) (hb : HB) (mb : Nat) (es : List MapEntry) (ck : Nat) (D : DS) (hD : D.Ok) :
    Spec Try.prog 36 [.pointer (some ⟨b, 0, none⟩)] ρ (diskL b hb mb es ck D) (fun v ρ' L' => ρ' = ρ ∧ ∃ b' hb' mb', v = .pointer (some ⟨b', 0, none⟩) ∧ L' = diskL b hb mb es ck D ++ diskL b' hb' mb' es ck D) := by
  obtain ⟨s, ops, armed, failing, dead⟩ := D
  have hs := hD.secs
  dsimp only at hs
  have hlen := hs.len
  have hpos := hs.pos
  have hl := heldC_length hs.held
  have h1 := heldC_one s
  refine spec_enter Try.func36 rfl rfl rfl fun u R => ?_
  simp only [argsE, List.cons_append, List.nil_append, diskL, dO]
  repeat' (first | (refine i_op ?_; first | (refine i_qq ?_; refine qQ ?_) | refine qEf ?_) | refine tl_nil ?_ | (refine i_tc ?_; refine qTc ?_) | (refine i_te ?_; refine qTe ?_) | intro _)
  rename_i bc
  refine tc_any (Stays _ _ ([[(b, .cells ⟨[.slice (some ⟨hb.b, 0, none⟩) s.length hb.cap, .map (some mb), .int .i64 ops, .int .i64 armed, .int .i64 failing, .bool dead]⟩ 116 (0, 0))]])) (stays_of (hT := tk) (Hp.le_refl _)) ?_
  all_goals refine rMv 0 ?_
  all_goals refine rNc 1 ?_
  all_goals refine rFa 2 ?_
  all_goals refine rLd 3 ?_
  all_goals refine rMv 5 ?_
  all_goals refine rNc 6 ?_
  all_goals refine rFa 7 ?_
  all_goals refine rLd 8 ?_
  all_goals (refine rStep (i := 4) ?_; ((try refine qWant ?_); (first | (refine tl_is (.func 78) ?_; refine qC rfl rfl (clone46 _ hb.b s.length hb.cap (heldC s) hb.sp hl hpos (by omega) h1) ?_; rintro v ρ' L' hle ⟨rfl, sp', hown, rfl⟩; obtain ⟨hb', hc', rfl⟩ := hown.pos hpos; simp only [ownC, List.cons_append, List.nil_append]) | (refine qEf ?_; try intro _)) <;> ((try simp only [List.cons_append, List.nil_append, List.append_eq]); refine tl_nil ?_; refine rNext ?_)))
  all_goals (refine rStep (i := 9) ?_; ((try refine qWant ?_); (first | (refine tl_is (.func 79) ?_; refine qC rfl rfl (mclone47 _ mb _ ck) ?_; rintro v ρ' L' hle ⟨rfl, mb', rfl, rfl⟩ <;> (try simp only [List.cons_append, List.nil_append, List.append_eq])) | (refine qEf ?_; try intro _)) <;> ((try simp only [List.cons_append, List.nil_append, List.append_eq]); refine tl_nil ?_; refine rNext ?_)))
  all_goals refine rFa 10 ?_
  all_goals (refine rStep (i := 11) ?_; ((try refine qWant ?_); (first | (refine qEf ?_; try intro _)) <;> ((try simp only [List.cons_append, List.nil_append, List.append_eq]); refine tl_nil ?_; refine rNext ?_)))
  all_goals refine rFa 12 ?_
  all_goals (refine rStep (i := 13) ?_; ((try refine qWant ?_); (first | (refine qEf ?_; try intro _)) <;> ((try simp only [List.cons_append, List.nil_append, List.append_eq]); refine tl_nil ?_; refine rNext ?_)))
  all_goals refine rDone ?_
  repeat' (first | (refine i_op ?_; first | (refine i_qq ?_; refine qQ ?_) | refine qEf ?_) | refine tl_nil ?_ | (refine i_tc ?_; refine qTc ?_) | (refine i_te ?_; refine qTe ?_) | intro _)
  exact qE ⟨rfl, bc, ⟨hb', hc', sp'⟩, mb', rfl, rfl⟩
theorem crash_in (ρ : Hp) (b : Nat) (hb : HB) (mb : Nat) (es : List MapEntry) (ck : Nat) (D : DS) (hD : D.Ok) (hm : MapOk D.secs es) (ka : Option Addr) (kn kp m : Nat) (ks : List Bool) (hk : KeepIn ρ ka kn kp ks) (hmn : m = min kn 60) :
    Spec Try.prog 22 [.pointer (some ⟨b, 0, none⟩), .slice ka m kp] ρ (diskL b hb mb es ck D)
      (fun v ρ' L' => v = .int .i64 0 ∧ ρ.le ρ' ∧ ∃ mb' ck', L' = diskL b hb mb' [] ck' (D.crash (keepB (ks.take 60)))) := by
  have := crash_spec ρ b hb mb es ck D hD hm ka m kp [] (keepB (ks.take 60)) (fun bk nth _ => by
    obtain ⟨h1, h2, h3, h4⟩ := hk
    by_cases hlt : nth < m
    · obtain ⟨kb, off, C, T, fr, rfl, e2, e3⟩ := h4.resolve_left (by omega)
      have hn : nth < ks.length := by omega
      have hc : C[off + nth * 1]? = some (.bool ks[nth]) := by
        have := congrArg (fun l : List Value => l[nth]?) e3

        rw [List.getElem?_take_of_lt (by omega), List.getElem?_drop] at this
        rw [Nat.mul_one, this]; simp [hn, bb]
      have hkb : keepB (ks.take 60) nth = ks[nth] := by
        unfold keepB
        rw [List.getElem?_take_of_lt (by omega), List.getElem?_eq_getElem hn, Option.getD_some]
      rw [hkb]
      exact crash1_imm ρ bk nth kb off m kp C T fr _ hlt hc e2
    · have hkb : keepB (ks.take 60) nth = false := by
        unfold keepB
        rw [List.getElem?_eq_none (by simp; omega)]; rfl
      rw [hkb]
      exact crash1_over ρ bk nth ka m kp [] (by omega))
  simp only [List.append_nil] at this
  exact this
theorem settled_congr {f g : Nat → Bool} {s : Secs} (h : ∀ n, n < (pend s).length → f n = g n) : settled f s = settled g s := by
  have hl : (settled f s).length = (settled g s).length := by rw [settled_length, settled_length]
  apply List.ext_getElem hl
  intro i h1 h2
  have hi : i < s.length := by rw [settled_length] at h1; exact h1
  rw [settled_at hi, settled_at hi]
  cases hp : isP s i with
  | false => simp
  | true =>
    have hlt : (pendTo s i).length < (pend s).length := by
      have := (pendTo_pre (s := s) (k := i + 1) (m := s.length) (by omega)).length_le
      rw [pendTo_succ_t hp] at this
      simp only [List.length_append, List.length_singleton] at this
      unfold pend; omega
    rw [h _ hlt]
theorem settled_empty {f : Nat → Bool} {s : Secs} (h : emptyC s) : settled f s = s := by
  apply List.ext_getElem (by rw [settled_length])
  intro i h1 h2
  rw [settled_at h2, isP_empty h]
  have := h s[i] (List.getElem_mem h2)
  simp only [Bool.false_and, Bool.false_eq_true, if_false]
  cases hs : s[i] with
  | mk x y => rw [hs] at this; simp only at this; rw [this]
theorem pend_empty {s : Secs} (h : emptyC s) : pend s = [] := by
  unfold pend pendTo
  rw [List.filter_eq_nil_iff]
  intro a _
  rw [isP_empty h]; simp
theorem madeFalse (n : Nat) : madeCells (Value.bool false).cells (n * 1) = ⟨List.replicate n (.bool false)⟩ := by
  have := madeCells_rep (.bool false) 1 (n * 1) (by decide)
  simpa [Value.cells] using this
end Go.Proofs.E

namespace Go.Proofs.E
open Go Go.RowKit
set_option linter.unusedVariables false
set_option linter.unusedSimpArgs false
set_option linter.unusedSectionVars false
set_option maxRecDepth 8000
/-! ## what came in: bytes, rows of them -/
theorem rs_flatK {α : Type} {sz : Nat} {g : α → List Value} {C : List Value} {off : Nat} : ∀ (l : List α) (k : Nat), k ≤ l.length → (∀ i (h : i < l.length), (C.drop (off + i * sz)).take sz = g l[i]) → (C.drop off).take (k * sz) = ((l.take k).map g).flatten
  | l, 0, _, _ => by simp
  | l, k + 1, hk, h => by
    have ih := rs_flatK l k (by omega) h
    rw [show l.take (k + 1) = l.take k ++ [l[k]'(by omega)] from List.take_succ_eq_append_getElem (by omega), Nat.add_mul, Nat.one_mul, List.take_add, ih, List.drop_drop, h k (by omega)]
    simp only [List.map_append, List.flatten_append, List.map_cons, List.map_nil, List.flatten_cons, List.flatten_nil, List.append_nil]
theorem aIn_ofK {ρ : Hp} {α : Type} {sz : Nat} {g : α → List Value} {P : α → Prop} {cs : List Value} {s : Option Addr × Nat × Nat × List α} (hg : ∀ x, (g x).length = sz) (h : RS ρ sz (fun cs x => cs = g x ∧ P x) cs s) : AIn ρ sz g s.1 s.2.1 s.2.2.2 ∧ (∀ x ∈ s.2.2.2, P x) ∧ s.2.1 ≤ s.2.2.1 ∧ s.2.1 ≤ 9223372036854775807 := by
  obtain ⟨a, n, c, ks⟩ := s
  obtain ⟨h1, h2, h3, h4, h5⟩ := h
  dsimp only at h1 h2 h3 h4 h5 ⊢
  refine ⟨⟨h4, ?_, fun x _ => hg x⟩, fun x hx => ?_, h2, by omega⟩
  · by_cases h0 : n = 0
    · exact .inl h0
    · right
      obtain ⟨b, off, C, T, fr, e1, e2, e3, e4⟩ := h5 0 (by omega)
      have same : ∀ i (h : i < ks.length), off + i * sz + sz ≤ C.length ∧ (C.drop (off + i * sz)).take sz = g ks[i] := fun i hi => by
        obtain ⟨b', off', C', T', fr', f1, f2, f3, f4⟩ := h5 i hi
        rw [e1] at f1
        cases f1
        rw [e2] at f2
        cases f2
        exact ⟨f3, f4.1⟩
      refine ⟨b, off, C, T, fr, e1, e2, ?_, ?_⟩
      · have := (same (n - 1) (by omega)).1
        have e : n * sz = (n - 1) * sz + sz := by
          obtain ⟨m, rfl⟩ : ∃ m, n = m + 1 := ⟨n - 1, by omega⟩
          rw [Nat.add_mul]; simp
        omega
      · have := rs_flatK (sz := sz) (g := g) ks n (by omega) (fun i hi => (same i hi).2)
        rw [this, List.take_of_length_le (by omega)]
  · obtain ⟨i, hi, rfl⟩ := List.mem_iff_getElem.1 hx
    obtain ⟨_, _, _, _, _, _, _, _, f⟩ := h5 i hi
    exact f.2
theorem opn_u8K {H : Type} {enc : TypeId × Value → H} {w : World} : Opn enc Try.prog w 5 (fun cs (b : UInt8) => cs = [u8c b]) := fun fuel cs x h => by
  obtain ⟨n, rfl, h1, h2⟩ := opn_int Try.underlying5 fuel cs x h
  simp only [lo, hi] at h1 h2
  refine ⟨UInt8.ofNat n.toNat, ?_⟩
  have : ((UInt8.ofNat n.toNat).toNat : Int) = n := by simp [UInt8.toNat_ofNat]; omega
  simp only [u8c, this]
theorem opn_bytesK {H : Type} {enc : TypeId × Value → H} {w : World} : Opn enc Try.prog w 30 (RS (hpOf w) 1 (fun cs (b : UInt8) => cs = [u8c b])) :=
  opn_slice Try.underlying30 (by kernel_rfl) (by decide) opn_u8K
theorem sIn_ofK {ρ : Hp} {cs : List Value} {s : Option Addr × Nat × Nat × List UInt8} (h : RS ρ 1 (fun cs (b : UInt8) => cs = [u8c b]) cs s) : SIn ρ u8c s.1 s.2.1 s.2.2.2 ∧ s.2.1 ≤ s.2.2.1 ∧ s.2.1 ≤ 9223372036854775807 := by
  obtain ⟨a, n, c, ks⟩ := s
  obtain ⟨h1, h2, h3, h4, h5⟩ := h
  dsimp only at h1 h2 h3 h4 h5 ⊢
  refine ⟨⟨h4, ?_⟩, h2, by omega⟩
  by_cases h0 : n = 0
  · exact .inl h0
  · right
    obtain ⟨b, off, C, T, fr, e1, e2, e3, e4⟩ := h5 0 (by omega)
    have same : ∀ i (h : i < ks.length), off + i * 1 + 1 ≤ C.length ∧ (C.drop (off + i * 1)).take 1 = [u8c ks[i]] := fun i hi => by
      obtain ⟨b', off', C', T', fr', f1, f2, f3, f4⟩ := h5 i hi
      rw [e1] at f1
      cases f1
      rw [e2] at f2
      cases f2
      exact ⟨f3, f4⟩
    refine ⟨b, off, C, T, fr, e1, e2, ?_⟩
    apply List.ext_getElem
    · have := (same (n - 1) (by omega)).1
      simp; omega
    · intro i h1 h2
      have hi : i < ks.length := by simpa using h2
      have h3 := (same i hi).2
      have h4 := congrArg (fun l : List Value => l[0]?) h3
      simp only [List.getElem?_cons_zero] at h4
      rw [List.getElem?_take_of_lt (by omega), List.getElem?_drop] at h4
      have h5 : C[off + i]? = some (u8c ks[i]) := by simpa using h4
      simp only [List.getElem_take, List.getElem_drop, List.getElem_map]
      exact (List.getElem?_eq_some_iff.1 h5).2

theorem Opn.mono {H : Type} {enc : TypeId × Value → H} {P : Program} {w : World} {t : TypeId} {α β : Type} {R : List Value → α → Prop} {R' : List Value → β → Prop} (h : Opn enc P w t R) (k : ∀ cs a, R cs a → ∃ b, R' cs b) : Opn enc P w t R' := fun fuel cs x hx => by
  obtain ⟨a, ha⟩ := h fuel cs x hx
  exact k cs a ha
theorem sIn_of1 {ρ : Hp} {α : Type} {g : α → Value} {a : Option Addr} {n : Nat} {l : List α} (h : AIn ρ 1 (fun x => [g x]) a n l) : SIn ρ g a n l := by
  refine ⟨h.len, ?_⟩
  rcases h.out with h0 | ⟨b, off, C, T, fr, h1, h2, h3, h4⟩
  · exact .inl h0
  · right
    refine ⟨b, off, C, T, fr, h1, h2, ?_⟩
    rw [Nat.mul_one] at h4
    rw [h4]
    clear h h4 h3
    induction l with
    | nil => rfl
    | cons x r ih => simp [ih]
end Go.Proofs.E

namespace Go.Proofs.E
open Go
set_option linter.unusedVariables false
set_option linter.unusedSimpArgs false
set_option linter.unusedSectionVars false
set_option maxRecDepth 4000
set_option maxHeartbeats 1000000
attribute [local irreducible] Yl TL TC TE Spec YSpec R1 Hp.le EnvLe TS TR YS Stays
/-! ## layer 4: rings, as data -/
abbrev Bs := List UInt8
def pad (l : Bs) : Blk := (l ++ z8 64).take 64
theorem pad_len (l : Bs) : (pad l).length = 64 := by simp [pad, z8]
theorem pad_of {l : Bs} (h : l.length ≤ 64) : pad l = l ++ z8 (64 - l.length) := by
  unfold pad z8
  rw [List.take_append, List.take_of_length_le h, List.take_replicate, Nat.min_eq_left (by omega)]
theorem pad_take (l : Bs) : pad (l.take 64) = pad l := by
  by_cases h : l.length ≤ 64
  · rw [List.take_of_length_le h]
  · unfold pad
    rw [List.take_append_of_le_length (by simp; omega), List.take_take, List.take_append_of_le_length (by omega)]; simp
structure Hd where
  turn : Nat
  first : Nat
  size : Nat
  place : Nat
  note : Bs
deriving DecidableEq
def sects (n : Nat) : Nat := max 1 ((n + 51) / 52)
theorem sects_pos (n : Nat) : 1 ≤ sects n := by unfold sects; omega
theorem sects_le {n : Nat} (h : n ≤ 8000) : sects n ≤ 154 := by unfold sects; omega
def letB : Bs := [98, 117, 114, 115, 114, 105, 110, 103]
def partB (turn n : Nat) (b : Bs) (k : Nat) : Blk := pad (be 4 turn ++ (be 5 n ++ (be 2 b.length ++ (UInt8.ofNat k :: (b.drop (52 * k)).take 52))))
def headB (h : Hd) : Blk := pad (letB ++ (be 4 h.turn ++ (be 2 h.size ++ (be 5 h.first ++ (be 2 h.place ++ (UInt8.ofNat h.note.length :: h.note))))))
theorem partB_len (t n : Nat) (b : Bs) (k : Nat) : (partB t n b k).length = 64 := pad_len _
theorem headB_len (h : Hd) : (headB h).length = 64 := pad_len _
/-- what a head's sector says, ahead of the note -/
def headOf (s : Blk) : Hd := ⟨unbe ((s.drop 8).take 4), unbe ((s.drop 14).take 5), unbe ((s.drop 12).take 2), unbe ((s.drop 19).take 2), (s.drop 22).take (s.getD 21 0).toNat⟩
def zHd : Hd := ⟨0, 0, 0, 0, []⟩
def Hd.Right (h : Hd) (n : Nat) : Prop := 1 ≤ h.turn ∧ h.turn ≤ 1073741824 ∧ 4 ≤ h.size ∧ h.size ≤ 1000 ∧ 1 ≤ h.first ∧ h.first ≤ 1099511627776 ∧ h.place < h.size ∧ n ≤ 32
instance (h : Hd) (n : Nat) : Decidable (h.Right n) := by unfold Hd.Right; infer_instance
def readB (s : Blk) : Hd × Bool := if (headOf s).Right (s.getD 21 0).toNat then (headOf s, decide (headB (headOf s) = s)) else (zHd, false)
def countsB (a b : Blk) : Hd × Bool := if (readB a).2 && (!(readB b).2 || decide ((readB b).1.turn ≤ (readB a).1.turn)) then ((readB a).1, true) else readB b
/-- sectors that are written one by one, and a Sync -/
def DS.lays : List (Nat × Blk) → DS → DS × Int
  | [], D => D.sync
  | p :: r, D => if (D.write (p.1 : Int) p.2).2 = 0 then DS.lays r (D.write (p.1 : Int) p.2).1 else D.write (p.1 : Int) p.2
def partsL (h : Hd) (n : Nat) (b : Bs) (at' : Nat) : List (Nat × Blk) := (List.range (sects b.length)).map fun k => (2 + (at' + k) % h.size, partB h.turn n b k)
theorem DS.Ok.lays : ∀ {l : List (Nat × Blk)} {D : DS}, D.Ok → (∀ p ∈ l, p.2.length = 64) → (DS.lays l D).1.Ok
  | [], D, h, _ => h.sync
  | p :: r, D, h, hl => by
    have h1 := hl p (by simp)
    unfold DS.lays
    split
    · exact DS.Ok.lays (h.write h1) (fun q hq => hl q (by simp [hq]))
    · exact h.write h1
theorem write_length (D : DS) (i : Int) (b : Blk) : (D.write i b).1.secs.length = D.secs.length := by
  unfold DS.write
  split
  · rfl
  · split
    · rfl
    · split
      · simp [putC_length]
      · split
        · rfl
        · simp [putC_length]
theorem sync_length (D : DS) : D.sync.1.secs.length = D.secs.length := by
  unfold DS.sync
  split
  · rfl
  · split
    · rfl
    · split
      · rfl
      · simp [settled_length]
theorem lays_length : ∀ (l : List (Nat × Blk)) (D : DS), (DS.lays l D).1.secs.length = D.secs.length
  | [], D => sync_length D
  | p :: r, D => by
    unfold DS.lays
    split
    · rw [lays_length, write_length]
    · exact write_length _ _ _
/-- bytes that lie in ρ, or in own memory that is left as it is -/
structure Rd (ρ : Hp) (X : SH) (a : Option Addr) (n : Nat) (l : Bs) : Prop where
  len : l.length = n
  src : ∀ (x : Cx) (ρ' : Hp) (L R : SH), ρ.le ρ' → Take L X R → SrcV x ρ' L a (l.map u8c)
theorem Rd.mono {ρ ρ' : Hp} {X : SH} {a : Option Addr} {n : Nat} {l : Bs} (h : Rd ρ X a n l) (hle : ρ.le ρ') : Rd ρ' X a n l := ⟨h.len, fun x ρ2 L R h2 hT => h.src x ρ2 L R (Hp.le_trans hle h2) hT⟩
theorem SIn.rd {ρ : Hp} {a : Option Addr} {n : Nat} {l : Bs} (h : SIn ρ u8c a n l) : Rd ρ [] a n l := ⟨h.len, fun x ρ' L R hle _ => (h.mono hle).srcV⟩
theorem OwnS.rd {ρ : Hp} {a : Option Addr} {n c : Nat} {l : Bs} {sp : List Value} {T : TypeId} (h : OwnS (.slice a n c) n (l.map u8c) sp 1) : Rd ρ [ownC (.slice a n c) (l.map u8c) sp T] a n l := by
  refine ⟨?_, fun x ρ' L R hle hT => ?_⟩
  · obtain ⟨_, _, _, h2⟩ := h.len
    simpa using h2
  · rcases h.out with ⟨e1, h1, h2, h3⟩ | ⟨b, c', e1, h2, h3, h4⟩
    · exact .inl h2
    · cases e1
      refine .inr ⟨b, 0, rfl, fun w hw j c hj => ?_⟩
      have hw' := hw.perm hT.out
      have hb : w.heap[b]? = some (.cells ⟨l.map u8c ++ sp⟩ T (0, 0)) := hw'.here (b, .cells ⟨l.map u8c ++ sp⟩ T (0, 0)) (by simp [ownC])
      simp only [World.cell?, hb, Option.isSome_none, Bool.false_eq_true, if_false, Nat.zero_add]
      simp only [List.getElem?_toArray]
      rw [List.getElem?_append_left (List.getElem?_eq_some_iff.1 hj).1]; exact hj
theorem SrcV.sub {x : Cx} {ρ : Hp} {L : SH} {a : Option Addr} {ys : List Value} (h : SrcV x ρ L a ys) {lo' k cap : Nat} (hk : lo' + k ≤ ys.length) (hc : ys.length ≤ cap) : SrcV x ρ L (if cap = lo' then a else a.map (·.add (lo' * 1))) ((ys.drop lo').take k) := by
  rcases h with rfl | ⟨b, off, rfl, hs⟩
  · left; simp
  · by_cases h0 : k = 0
    · left; simp [h0]
    · right
      rw [if_neg (by omega)]
      refine ⟨b, off + lo', by simp [addr_add], fun w hw j c hj => ?_⟩
      have hlt : j < k := by
        have := (List.getElem?_eq_some_iff.1 hj).1
        simp at this; omega
      rw [List.getElem?_take_of_lt hlt, List.getElem?_drop] at hj
      have := hs w hw (lo' + j) c hj
      rw [Nat.add_assoc]; exact this
/-- where a disk's parts lie, and what its cache's map holds -/
structure DK where
  hb : HB
  mb : Nat
  es : List MapEntry
  ck : Nat
abbrev diskK (b : Nat) (k : DK) (D : DS) : SH := diskL b k.hb k.mb k.es k.ck D
structure DOk (k : DK) (D : DS) : Prop where
  ok : D.Ok
  map : MapOk D.secs k.es
/-! ### what is done with rings -/
structure RgS where
  h : Hd
  ents : List Bs
  used : Nat
  broken : Bool
def usedL (l : List Bs) : Nat := (l.map fun b => sects b.length).sum
theorem usedL_append (l m : List Bs) : usedL (l ++ m) = usedL l + usedL m := by simp [usedL]
theorem usedL_cons (b : Bs) (l : List Bs) : usedL (b :: l) = sects b.length + usedL l := by simp [usedL]
theorem usedL_take_drop (l : List Bs) (n : Nat) : usedL (l.take n) + usedL (l.drop n) = usedL l := by rw [← usedL_append, List.take_append_drop]
theorem usedL_len (l : List Bs) : l.length ≤ usedL l := by
  induction l with
  | nil => simp [usedL]
  | cons b r ih => have := sects_pos b.length; rw [usedL_cons]; simp; omega
def RgS.next (R : RgS) : Nat := R.h.first + R.ents.length
structure RgS.Ok (R : RgS) : Prop where
  turn : 1 ≤ R.h.turn ∧ R.h.turn ≤ 1073741824
  size : 4 ≤ R.h.size ∧ R.h.size ≤ 1000
  first : 1 ≤ R.h.first
  next : R.next ≤ 1099511627776
  place : R.h.place < R.h.size
  note : R.h.note.length ≤ 32
  used : R.used = usedL R.ents
  fit : R.used ≤ R.h.size
  long : ∀ b ∈ R.ents, b.length ≤ 8000
def headL (h : Hd) : List (Nat × Blk) := [(h.turn % 2, headB h)]
def Hd.cut (h : Hd) (n gone : Nat) (note : Bs) : Hd := ⟨h.turn + 1, h.first + n, h.size, (h.place + gone) % h.size, note⟩
def RgS.append (R : RgS) (b : Bs) (D : DS) : RgS × DS × Int :=
  if R.broken then (R, D, 8)
  else if 8000 < b.length then (R, D, 3)
  else if R.h.size - R.used < sects b.length ∨ 1099511627776 ≤ R.next then (R, D, 6)
  else if (DS.lays (partsL R.h R.next b (R.h.place + R.used)) D).2 = 0 then (⟨R.h, R.ents ++ [b], R.used + sects b.length, false⟩, DS.lays (partsL R.h R.next b (R.h.place + R.used)) D)
  else ({ R with broken := true }, DS.lays (partsL R.h R.next b (R.h.place + R.used)) D)
def RgS.cutH (R : RgS) (n : Nat) (note : Bs) : Hd := R.h.cut n (usedL (R.ents.take n)) note
def RgS.cut (R : RgS) (n : Int) (note : Bs) (D : DS) : RgS × DS × Int :=
  if R.broken then (R, D, 8)
  else if n < 0 ∨ (R.ents.length : Int) < n ∨ R.h.turn = 1073741824 then (R, D, 2)
  else if 32 < note.length then (R, D, 3)
  else if (DS.lays (headL (R.cutH n.toNat note)) D).2 = 0 then (⟨R.cutH n.toNat note, R.ents.drop n.toNat, R.used - usedL (R.ents.take n.toNat), false⟩, DS.lays (headL (R.cutH n.toNat note)) D)
  else ({ R with broken := true }, DS.lays (headL (R.cutH n.toNat note)) D)
def freshH (size : Nat) : Hd := ⟨1, 1, size, 0, []⟩
def noughtsL (size : Nat) : List (Nat × Blk) := (List.range (size + 2)).map fun i => (i, zblk)
def formatR (size : Int) (D : DS) : Option RgS × DS × Int :=
  if size < 4 ∨ 1000 < size ∨ (D.secs.length : Int) < size + 2 then (none, D, 2)
  else if (DS.lays (noughtsL size.toNat) D).2 = 0 then
    if (DS.lays (headL (freshH size.toNat)) (DS.lays (noughtsL size.toNat) D).1).2 = 0 then (some ⟨freshH size.toNat, [], 0, false⟩, DS.lays (headL (freshH size.toNat)) (DS.lays (noughtsL size.toNat) D).1)
    else (none, DS.lays (headL (freshH size.toNat)) (DS.lays (noughtsL size.toNat) D).1)
  else (none, DS.lays (noughtsL size.toNat) D)
/-- the first bytes of a row of bytes, with noughts behind -/
def fitB (n : Nat) (l : Bs) : Bs := (l ++ z8 n).take n
theorem fitB_len (n : Nat) (l : Bs) : (fitB n l).length = n := by simp [fitB, z8]
/-- an entry's sectors from the k-th one on -/
def entGo (h : Hd) (n at' turn size : Nat) : Nat → Nat → Bs → DS → Option Bs × DS × Int
  | 0, _, acc, D => (some (fitB size acc), D, 0)
  | j + 1, k, acc, D =>
    if (D.read ((2 + (at' + k) % h.size : Nat) : Int)).2.2 ≠ 0 then (none, (D.read ((2 + (at' + k) % h.size : Nat) : Int)).1, (D.read ((2 + (at' + k) % h.size : Nat) : Int)).2.2)
    else if partB turn n (fitB size (acc ++ (D.read ((2 + (at' + k) % h.size : Nat) : Int)).2.1.drop 12)) k = (D.read ((2 + (at' + k) % h.size : Nat) : Int)).2.1 then
      entGo h n at' turn size j (k + 1) (acc ++ (D.read ((2 + (at' + k) % h.size : Nat) : Int)).2.1.drop 12) (D.read ((2 + (at' + k) % h.size : Nat) : Int)).1
    else (none, (D.read ((2 + (at' + k) % h.size : Nat) : Int)).1, 0)
def turnOf (s : Blk) : Nat := unbe (s.take 4)
def numOf (s : Blk) : Nat := unbe ((s.drop 4).take 5)
def sizeOf' (s : Blk) : Nat := unbe ((s.drop 9).take 2)
/-- an entry by its first sector -/
def entGo0 (h : Hd) (n at' left : Nat) (s : Blk) (D : DS) : Option Bs × DS × Int :=
  if turnOf s < 1 ∨ h.turn < turnOf s ∨ 8000 < sizeOf' s ∨ left < sects (sizeOf' s) then (none, D, 0)
  else if partB (turnOf s) n (fitB (sizeOf' s) (s.drop 12)) 0 = s then entGo h n at' (turnOf s) (sizeOf' s) (sects (sizeOf' s) - 1) 1 (s.drop 12) D
  else (none, D, 0)
def entryR (h : Hd) (n at' left : Nat) (D : DS) : Option Bs × DS × Int :=
  if left = 0 then (none, D, 0)
  else if (D.read ((2 + at' % h.size : Nat) : Int)).2.2 ≠ 0 then (none, (D.read ((2 + at' % h.size : Nat) : Int)).1, (D.read ((2 + at' % h.size : Nat) : Int)).2.2)
  else entGo0 h n at' left (D.read ((2 + at' % h.size : Nat) : Int)).2.1 (D.read ((2 + at' % h.size : Nat) : Int)).1
def RgS.adds (R : RgS) (b : Bs) : RgS := { R with ents := R.ents ++ [b], used := R.used + sects b.length }
def foundGo : Nat → RgS → DS → RgS × DS × Int
  | 0, R, D => (R, D, 0)
  | f + 1, R, D =>
    if R.next < 1099511627776 then
      match entryR R.h R.next (R.h.place + R.used) (R.h.size - R.used) D with
      | (some b, D', e) => if e = 0 then foundGo f (R.adds b) D' else (R, D', e)
      | (none, D', e) => (R, D', e)
    else (R, D, 0)
def openH (h : Hd) (D : DS) : Option RgS × DS × Int :=
  if D.secs.length < h.size + 2 then (none, D, 140)
  else if (foundGo (h.size + 1) ⟨h, [], 0, false⟩ D).2.2 ≠ 0 then (none, (foundGo (h.size + 1) ⟨h, [], 0, false⟩ D).2)
  else if h.turn = 1073741824 then (none, (foundGo (h.size + 1) ⟨h, [], 0, false⟩ D).2.1, 140)
  else if (DS.lays (headL { h with turn := h.turn + 1 }) (foundGo (h.size + 1) ⟨h, [], 0, false⟩ D).2.1).2 = 0 then
    (some { (foundGo (h.size + 1) ⟨h, [], 0, false⟩ D).1 with h := { h with turn := h.turn + 1 } }, DS.lays (headL { h with turn := h.turn + 1 }) (foundGo (h.size + 1) ⟨h, [], 0, false⟩ D).2.1)
  else (none, DS.lays (headL { h with turn := h.turn + 1 }) (foundGo (h.size + 1) ⟨h, [], 0, false⟩ D).2.1)
def openR (D : DS) : Option RgS × DS × Int :=
  if (D.read 0).2.2 ≠ 0 then (none, (D.read 0).1, (D.read 0).2.2)
  else if ((D.read 0).1.read 1).2.2 ≠ 0 then (none, ((D.read 0).1.read 1).1, ((D.read 0).1.read 1).2.2)
  else if (countsB (D.read 0).2.1 ((D.read 0).1.read 1).2.1).2 = false then (none, ((D.read 0).1.read 1).1, 140)
  else openH (countsB (D.read 0).2.1 ((D.read 0).1.read 1).2.1).1 ((D.read 0).1.read 1).1
end Go.Proofs.E

namespace Go.Proofs.E
open Go
set_option linter.unusedVariables false
set_option linter.unusedSimpArgs false
set_option linter.unusedSectionVars false
set_option maxRecDepth 4000
set_option maxHeartbeats 1000000
attribute [local irreducible] Yl TL TC TE Spec YSpec R1 Hp.le EnvLe TS TR YS Stays
theorem shr_byteR (V m : Nat) : Value.int .u8 (IntKind.u8.wrap ((V : Int) / 2 ^ (8 * m))) = u8c (UInt8.ofNat (V / 256 ^ m)) := by
  have h2 : (2 ^ (8 * m) : Nat) = 256 ^ m := by rw [Nat.pow_mul]
  have h3 : ((2 : Int) ^ (8 * m)) = ((2 ^ (8 * m) : Nat) : Int) := by rw [Int.natCast_pow]; rfl
  rw [h3, h2, ← Int.natCast_ediv, u8_wrap]
theorem be_take_succ : ∀ (n V j : Nat), j < n → (be n V).take (j + 1) = (be n V).take j ++ [UInt8.ofNat (V / 256 ^ (n - 1 - j))]
  | 0, V, j, h => by omega
  | n + 1, V, 0, h => by simp [be]
  | n + 1, V, j + 1, h => by
    have ih := be_take_succ n V j (by omega)
    rw [be, List.take_succ_cons, List.take_succ_cons, ih]
    simp only [List.cons_append, List.cons.injEq, true_and]
    rw [show n + 1 - 1 - (j + 1) = n - 1 - j by omega]
/-- a number's last bytes are appended -/
theorem put_spec (ρ : Hp) (v : Value) (c : List (Nat × Obj)) (l : Bs) (h : AppB v c 5 l) (x m : Nat) (hx : x < 18446744073709551616) (hm : m ≤ 8) (hm0 : 0 < m) (hl : l.length ≤ 1000000) :
    Spec Try.prog 118 [v, .int .u64 x, .int .i64 m] ρ [c] (fun v' ρ' L' => ρ' = ρ ∧ ∃ sp, OwnS v' (l.length + m) ((l ++ be m x).map u8c) sp 1 ∧ L' = [ownC v' ((l ++ be m x).map u8c) sp 5]) := by
  refine spec_enter Try.func118 rfl rfl rfl fun u R => ?_
  simp only [argsE, List.cons_append, List.nil_append]
  repeat' (first | (refine i_op ?_; first | (refine i_qq ?_; refine qQ ?_) | refine qEf ?_) | refine tl_nil ?_ | (refine i_tc ?_; refine qTc ?_) | (refine i_te ?_; refine qTe ?_) | intro _)
  refine tc_loop_g [(1, _), (6, _)] (fun (ζ : (Nat) × (Int) × (Value) × (List (Nat × Obj))) => [(7, .int .i64 ζ.2.1), (0, ζ.2.2.1)]) (fun (ζ : (Nat) × (Int) × (Value) × (List (Nat × Obj))) => ρ) (fun (ζ : (Nat) × (Int) × (Value) × (List (Nat × Obj))) => [ζ.2.2.2]) (fun (ζ : (Nat) × (Int) × (Value) × (List (Nat × Obj))) => ζ.1 ≤ m ∧ ζ.2.1 = (m : Int) - 1 - (ζ.1 : Int) ∧ AppB ζ.2.2.1 ζ.2.2.2 5 (l ++ (be m x).take ζ.1) ∧ (ζ.1 = 0 ∨ ∃ sp, OwnS ζ.2.2.1 (l.length + ζ.1) ((l ++ (be m x).take ζ.1).map u8c) sp 1 ∧ ζ.2.2.2 = ownC ζ.2.2.1 ((l ++ (be m x).take ζ.1).map u8c) sp 5)) (fun (ζ : (Nat) × (Int) × (Value) × (List (Nat × Obj))) => m - ζ.1) ((0, (m : Int) - 1, v, c)) (⟨Nat.zero_le _, by simp, by simpa using h, .inl rfl⟩) ev_le ev_le rfl tk ?_
  rintro ⟨j, i, v1, c1⟩ hI
  try simp only [List.cons_append, List.nil_append, List.append_assoc, List.append_eq] at hI ⊢
  try dsimp only at hI ⊢
  obtain ⟨hj, hi, ha, hor⟩ := hI
  by_cases hlt : j < m
  · have hsh := shr_byteR x (m - 1 - j)
    have hts := be_take_succ m x j hlt
    have hlen : ((be m x).take j).length = j := by simp [be_length]; omega
    subst hi
    have hmin : min (8 * ((m : Int) - 1 - (j : Int))).toNat 64 = 8 * (m - 1 - j) := by omega
    have hmm : l ++ (be m x).take j ++ [UInt8.ofNat (x / 256 ^ (m - 1 - j))] = l ++ (be m x).take (j + 1) := by rw [hts]; simp
    have hll : (l ++ (be m x).take (j + 1)).length = l.length + (j + 1) := by simp [be_length]; omega
    repeat' (first | (refine tl_buildSlice_s rfl rfl rfl rfl (by simp) rfl rfl (fun _ => ?_); simp only [hmin, hsh]) | (refine tl_appB (ys := [UInt8.ofNat (x / 256 ^ (m - 1 - j))]) (m := 1) rfl rfl ha (hR := by infer_instance) SrcV.lit rfl (by simp) (by simp [be_length]; omega) rfl (fun v2 sp2 hown2 => ?_); rw [hmm] at hown2 ⊢) | (refine i_op ?_; first | (refine i_qq ?_; refine qQ ?_) | refine qEf ?_) | refine tl_nil ?_ | (refine i_tc ?_; refine qTc ?_) | (refine i_te ?_; refine qTe ?_) | intro _)
    have ha2 := hown2.appB (T := 5) rfl
    rw [hll] at hown2
    refine te_round_g (j + 1, (m : Int) - 1 - (j : Int) - 1, v2, _) (⟨hlt, by dsimp only; omega, ha2, .inr ⟨sp2, hown2, rfl⟩⟩) ev_le ev_le rfl tk inferInstance (by first | omega | (dsimp only; omega))
  · have hk2 : j = m := by omega
    subst hk2
    obtain ⟨sp, hown, rfl⟩ := hor.resolve_left (by omega)
    rw [List.take_of_length_le (by rw [be_length]; exact Nat.le_refl _)] at *
    repeat' (first | (refine i_op ?_; first | (refine i_qq ?_; refine qQ ?_) | refine qEf ?_) | refine tl_nil ?_ | (refine i_tc ?_; refine qTc ?_) | (refine i_te ?_; refine qTe ?_) | intro _)
    exact qE ⟨rfl, sp, hown, rfl⟩
end Go.Proofs.E

