/- The law RecordReads. Part 12 of 21. -/
import Derived.Test.YtjajdpfdhokkhaaGreatV11
namespace Go.Proofs.E
open Go
set_option linter.unusedVariables false
set_option linter.unusedSimpArgs false
set_option linter.unusedSectionVars false
set_option maxRecDepth 4000
set_option maxHeartbeats 1000000
attribute [local irreducible] Yl TL TC TE Spec XW R1 Hp.le EnvLe TS TR YS Zv
def sectsB (n : Nat) : Nat := max 1 ((n + 51) / 52)
theorem rsects_spec (ρ : Hp) (n : Nat) (hn : n ≤ 4611686018427387904) : Spec Tryz.prog 127 [.int .i64 n] ρ [] (fun v ρ' L' => v = .int .i64 (sectsB n : Nat) ∧ ρ' = ρ ∧ L' = []) := by
 refine Zf Tryz.func127 rfl rfl rfl fun u R => ?_
 simp only [Zx, List.cons_append, List.nil_append]
 have e : max 1 (IntKind.i64.wrap (((n : Int) + 52 - 1).tdiv 52)) = ((sectsB n : Nat) : Int) := by
  rw [Int.tdiv_eq_ediv_of_nonneg (by omega), wrap_id (by simp only [lo, hi]; omega)]
  unfold sectsB; omega
 repeat' (first | (refine ZG ?_; refine Zn (Ze rfl) rfl rfl ?_) | (refine Zj ?_; first | (refine Zg ?_; refine qQ ?_) | refine Zl ?_) | refine Za ?_ | (refine Zi ?_; refine Zq ?_) | (refine Zh ?_; refine Zp ?_) | intro _)
 rw [e]
 exact qE ⟨rfl, rfl, rfl⟩
theorem listB_le {α : Type} (f : α → List UInt8) (m : Nat) (l : List α) (h : ∀ x ∈ l, (f x).length ≤ m) : (Xr f l).length ≤ 1 + l.length * m := by
 have := YH f m l h
 unfold Xr
 rw [List.length_cons]; omega
theorem recB_le {r : Rc} (h : LayOk r) : (recB r).length ≤ 4000 := by
 have h1 : (recHB r).length = 21 := by simp [recHB, ZF]
 have h2 : (imsB r).length ≤ 1 + r.ims.length * 165 := listB_le _ 165 r.ims (fun x hx => imB_len (h.im x hx).2.1 (h.im x hx).2.2)
 have h3 : (Xr stpB r.steps).length ≤ 1 + r.steps.length * 21 := listB_le _ 21 r.steps (fun x hx => stpB_len (h.st x hx))
 have h4 : (Xr ckTB r.txns).length ≤ 1 + r.txns.length * 29 := listB_le _ 29 r.txns (fun x hx => Nat.le_of_eq (ckTB_len x))
 have h5 : (Xr ckPB r.dirty).length ≤ 1 + r.dirty.length * 9 := listB_le _ 9 r.dirty (fun x hx => Nat.le_of_eq (ckPB_len x))
 have a1 := h.il
 have a2 := h.sl
 have a3 := h.tl
 have a4 := h.dl
 have h6 : (recTB r).length ≤ 3900 := by
  unfold recTB
  split
  ·omega
  ·split
   ·rw [ZF]; omega
   ·split
    ·rw [List.length_append, ZF]; omega
    ·split
     ·rw [List.length_append, ZF]; omega
     ·split
      ·rw [List.length_append, List.length_append, ZF]; omega
      ·simp
 unfold recB
 rw [List.length_append]; omega
theorem rencode_spec (ρ : Hp) (v : RV) (r : Rc) (h : RcIn ρ v r) : Spec Tryz.prog 29 [.agg ⟨Wv v r⟩] ρ []
  (fun z ρ' L' => ρ.le ρ' ∧ ∃ a n c, z = .tuple ⟨[.slice a n c, .int .i64 (if YM r then 0 else 220)]⟩ ∧ n ≤ c ∧ SIn ρ' ZM a n (if YM r then recB r else []) ∧ L' = []) := by
 have hck := XV ρ v r h
 refine Zf Tryz.func29 rfl rfl rfl fun u R => ?_
 simp only [Zx, List.cons_append, List.nil_append]
 cases hok : YM r
 ·rw [hok] at hck
  repeat' (first | (refine Zc (.func 27) ?_; refine qC rfl rfl (hck) ?_; rintro v ρ' L' hle ⟨rfl, rfl, rfl⟩ <;> (try simp only [kM, kN, kO, if_false, Bool.false_eq_true])) | (refine ZG ?_; refine Zn (Ze rfl) rfl rfl ?_) | (refine Zj ?_; first | (refine Zg ?_; refine qQ ?_) | refine Zl ?_) | refine Za ?_ | (refine Zi ?_; refine Zq ?_) | (refine Zh ?_; refine Zp ?_) | intro _)
  exact qE ⟨Hp.le_refl _, none, 0, 0, rfl, Nat.le_refl _, SIn.nil, rfl⟩
 ·rw [hok] at hck
  have hla := rlaid_spec ρ v r h (recOk_lay hok)
  repeat' (first | (refine Zc (.func 27) ?_; refine qC rfl rfl (hck) ?_; rintro v ρ' L' hle ⟨rfl, rfl, rfl⟩ <;> (try simp only [kM, kN, kO, if_true])) | (refine Zc (.func 112) ?_; refine qC rfl rfl (hla) ?_; rintro v ρ' L' hle ⟨hle1, a, c, rfl, hc, hs, rfl⟩ <;> (try simp only [kM, kN, kO])) | (refine ZG ?_; refine Zn (Ze rfl) rfl rfl ?_) | (refine Zj ?_; first | (refine Zg ?_; refine qQ ?_) | refine Zl ?_) | refine Za ?_ | (refine Zi ?_; refine Zq ?_) | (refine Zh ?_; refine Zp ?_) | intro _)
  exact qE ⟨hle1, a, _, c, rfl, hc, hs, rfl⟩
def costN (r : Rc) : Nat := if YM r then sectsB (recB r).length else 0
def errN (r : Rc) : Int := if YM r then 0 else 220
theorem rcost_spec (ρ : Hp) (v : RV) (r : Rc) (h : RcIn ρ v r) : Spec Tryz.prog 46 [.agg ⟨Wv v r⟩] ρ []
  (fun z ρ' L' => ρ.le ρ' ∧ z = .tuple ⟨[.int .i64 (costN r : Nat), .int .i64 (errN r)]⟩ ∧ L' = []) := by
 have hck := XV ρ v r h
 unfold costN errN
 refine Zf Tryz.func46 rfl rfl rfl fun u R => ?_
 simp only [Zx, List.cons_append, List.nil_append]
 cases hok : YM r
 ·rw [hok] at hck
  repeat' (first | (refine Zc (.func 27) ?_; refine qC rfl rfl (hck) ?_; rintro v ρ' L' hle ⟨rfl, rfl, rfl⟩ <;> (try simp only [kM, kN, kO, if_false, Bool.false_eq_true])) | (refine ZG ?_; refine Zn (Ze rfl) rfl rfl ?_) | (refine Zj ?_; first | (refine Zg ?_; refine qQ ?_) | refine Zl ?_) | refine Za ?_ | (refine Zi ?_; refine Zq ?_) | (refine Zh ?_; refine Zp ?_) | intro _)
  exact qE ⟨Hp.le_refl _, rfl, rfl⟩
 ·rw [hok] at hck
  have hla := rlaid_spec ρ v r h (recOk_lay hok)
  have hb := recB_le (recOk_lay hok)
  repeat' (first | (refine Zc (.func 27) ?_; refine qC rfl rfl (hck) ?_; rintro v ρ' L' hle ⟨rfl, rfl, rfl⟩ <;> (try simp only [kM, kN, kO, if_true])) | (refine Zc (.func 112) ?_; refine qC rfl rfl (hla) ?_; rintro v ρ' L' hle ⟨hle1, a, c, rfl, hc, hs, rfl⟩ <;> (try simp only [kM, kN, kO])) | (refine Zc (.func 127) ?_; refine qC rfl rfl (rsects_spec _ _ (by omega)) ?_; rintro v ρ' L' hle ⟨rfl, rfl, rfl⟩ <;> (try simp only [kM, kN, kO])) | (refine ZG ?_; refine Zn (Ze rfl) rfl rfl ?_) | (refine Zj ?_; first | (refine Zg ?_; refine qQ ?_) | refine Zl ?_) | refine Za ?_ | (refine Zi ?_; refine Zq ?_) | (refine Zh ?_; refine Zp ?_) | intro _)
  exact qE ⟨hle1, rfl, rfl⟩
theorem undoable_spec (ρ : Hp) (v : RV) (r : Rc) (h : RcIn ρ v r) : Spec Tryz.prog 78 [.agg ⟨Wv v r⟩] ρ []
  (fun z ρ' L' => z = .bool (YM r && decide (r.kind = 2 ∨ r.kind = 4)) ∧ ρ' = ρ ∧ L' = []) := by
 have hck := XV ρ v r h
 refine Zf Tryz.func78 rfl rfl rfl fun u R => ?_
 simp only [Zx, List.cons_append, List.nil_append]
 cases hok : YM r
 ·rw [hok] at hck
  repeat' (first | (refine Zc (.func 27) ?_; refine qC rfl rfl (hck) ?_; rintro v ρ' L' hle ⟨rfl, rfl, rfl⟩ <;> (try simp only [kM, kN, kO, if_false, Bool.false_eq_true])) | (refine ZG ?_; refine Zn (Ze rfl) rfl rfl ?_) | (refine Zj ?_; first | (refine Zg ?_; refine qQ ?_) | refine Zl ?_) | refine Za ?_ | (refine Zi ?_; refine Zq ?_) | (refine Zh ?_; refine Zp ?_) | intro _)
  exact qE ⟨rfl, rfl, rfl⟩
 ·rw [hok] at hck
  by_cases h2 : r.kind = 2
  ·repeat' (first | (refine Zc (.func 27) ?_; refine qC rfl rfl (hck) ?_; rintro v ρ' L' hle ⟨rfl, rfl, rfl⟩ <;> (try simp only [kM, kN, kO, if_true])) | (refine ZG ?_; refine Zn (Ze rfl) rfl rfl ?_) | (refine Zj ?_; first | (refine Zg ?_; refine qQ ?_) | refine Zl ?_) | refine Za ?_ | (refine Zi ?_; refine Zq ?_) | (refine Zh ?_; refine Zp ?_) | intro _)
   refine qF (L' := []) ?_
   exact ⟨by simp [h2], rfl, rfl⟩
  ·repeat' (first | (refine Zc (.func 27) ?_; refine qC rfl rfl (hck) ?_; rintro v ρ' L' hle ⟨rfl, rfl, rfl⟩ <;> (try simp only [kM, kN, kO, if_true])) | (refine ZG ?_; refine Zn (Ze rfl) rfl rfl ?_) | (refine Zj ?_; first | (refine Zg ?_; refine qQ ?_) | refine Zl ?_) | refine Za ?_ | (refine Zi ?_; refine Zq ?_) | (refine Zh ?_; refine Zp ?_) | intro _)
   refine qF (L' := []) ?_
   exact ⟨YI (by (try simp [*]); first | done | omega | (intros; omega) | (constructor <;> intros <;> (try simp_all) <;> omega)), rfl, rfl⟩
def undI (x : Im) : Im := ⟨0, YX, ztC, x.bv, x.b⟩
def undR (l : List Im) : Rc := ⟨5, 0, 0, 0, 0, l.map undI, [], 0, [], []⟩
def stepN (s : Stp) : Nat := if s.kind = 3 ∨ s.kind = 4 then 12 else 1
def pagesN (l : List Stp) : Nat := (l.map stepN).sum
def reserveN (r : Rc) : Nat :=
 if YM r then (if r.kind = 1 then 2 else if r.kind = 2 then sectsB (recB (undR r.ims)).length else if r.kind = 4 then sectsB (30 + min (pagesN r.steps) 16 * 83) else 0) else 0
theorem contOk_z : ZQ ztC = true := by decide
theorem undR_lay {l : List Im} (h1 : l.length ≤ 16) (h2 : ∀ x ∈ l, ZQ x.b = true) : LayOk (undR l) := by
 refine ⟨by simp [undR], by simp [undR], by simp [undR], by simp [undR], by simp [undR], by simp [undR], by simp [undR]; omega, ?_, by simp [undR], by simp [undR], by simp [undR], by simp [undR], by simp [undR], by simp [undR]⟩
 intro x hx
 obtain ⟨y, hy, rfl⟩ := List.mem_map.1 hx
 exact ⟨by simp [undI], h2 y hy, contOk_z⟩
theorem u32_spec (ρ : Hp) (br : Nat) (a : Option Addr) (n c : Nat) (l : List UInt8) (h : SIn ρ ZM a n l) (hc : n ≤ c) (st : Int) :
  Spec Tryz.prog 82 [.pointer (some ⟨br, 0, none⟩)] ρ [rdC br a n c st]
   (fun v ρ' L' => v = .int .u32 ((Yk 4 l st).1 : Nat) ∧ ρ' = ρ ∧ ∃ a' n' c', SIn ρ ZM a' n' (Yk 4 l st).2.1 ∧ n' ≤ c' ∧ L' = [rdC br a' n' c' (Yk 4 l st).2.2]) := by
 have hb := Wc 4 l st
 have hn := number_spec ρ br a n c l h hc st 4 (by omega)
 generalize Yk 4 l st = r at *
 refine Zf Tryz.func82 rfl rfl rfl fun u R => ?_
 simp only [Zx, List.cons_append, List.nil_append]
 repeat' (first | (refine Zc (.func 160) ?_; refine qC rfl rfl (hn) ?_; rintro v ρ' L' hle ⟨rfl, rfl, a', n', c', hs', hc', rfl⟩ <;> (try simp only [kM, kN, kO])) | (refine ZG ?_; refine Zn (Ze rfl) rfl rfl ?_) | (refine Zj ?_; first | (refine Zg ?_; refine qQ ?_) | refine Zl ?_) | refine Za ?_ | (refine Zi ?_; refine Zq ?_) | (refine Zh ?_; refine Zp ?_) | intro _)
 exact qE ⟨rfl, rfl, a', n', c', hs', hc', rfl⟩
abbrev reC (tb br : Nat) (ra : Option Addr) (rn rc : Nat) (v : RV) (r : Rc) (bad : Bool) : List (Nat × Obj) := [(tb, .cells ⟨[.pointer (some ⟨br, 0, none⟩), .slice ra rn rc, .int .i64 r.kind, .int .u64 r.lsn, .int .i64 r.txn, .int .u64 r.prev, .int .u64 r.next, .slice v.i.a v.i.n v.i.c, .slice v.s.a v.s.n v.s.c, .int .i64 r.nextTxn, .slice v.t.a v.t.n v.t.c, .slice v.d.a v.d.n v.d.c, .bool bad]⟩ 138 (0, 0))]
structure RdAt (ρ : Hp) (a : Option Addr) (n c : Nat) (ra : Option Addr) (rn rc : Nat) (R : List UInt8) (s : Yo) : Prop where
 at' : SIn ρ ZM a n s.1
 cap : n ≤ c
 rest : SIn ρ ZM ra rn R
 rcap : rn ≤ rc
 big : rn ≤ 1000000
 suf : ∃ X, R = X ++ s.1
theorem RdAt.mono {ρ ρ' a n c ra rn rc R s} (h : RdAt ρ a n c ra rn rc R s) (hle : ρ.le ρ') : RdAt ρ' a n c ra rn rc R s := ⟨h.at'.mono hle, h.cap, h.rest.mono hle, h.rcap, h.big, h.suf⟩
theorem numR_suf (k : Nat) (l : List UInt8) (st : Int) : ∃ X, l = X ++ (Yk k l st).2.1 := by
 unfold Yk
 split
 ·exact ⟨[], rfl⟩
 ·split
  ·exact ⟨[], rfl⟩
  ·exact ⟨l.take k, (List.take_append_drop k l).symm⟩
theorem rawR_suf (k : Nat) (l : List UInt8) (st : Int) : ∃ X, l = X ++ (Wo k l st).2.1 := by
 unfold Wo
 split
 ·exact ⟨[], rfl⟩
 ·split
  ·exact ⟨[], rfl⟩
  ·exact ⟨l.take k, (List.take_append_drop k l).symm⟩
theorem RdAt.num {ρ a n c ra rn rc R s} (h : RdAt ρ a n c ra rn rc R s) (k : Nat) {a' n' c'} (h1 : SIn ρ ZM a' n' (Yk k s.1 s.2.1).2.1) (h2 : n' ≤ c') : RdAt ρ a' n' c' ra rn rc R (ZN k s).2 := by
 obtain ⟨X, hX⟩ := h.suf
 obtain ⟨Y, hY⟩ := numR_suf k s.1 s.2.1
 exact ⟨h1, h2, h.rest, h.rcap, h.big, X ++ Y, by rw [List.append_assoc, hX]; exact congrArg (X ++ ·) hY⟩
theorem RdAt.skip {ρ a n c ra rn rc R s} (h : RdAt ρ a n c ra rn rc R s) (k : Int) {a' n' c'} (h1 : SIn ρ ZM a' n' (Wo k.toNat s.1 s.2.1).2.1) (h2 : n' ≤ c') : RdAt ρ a' n' c' ra rn rc R (skipS k s) := by
 obtain ⟨X, hX⟩ := h.suf
 obtain ⟨Y, hY⟩ := rawR_suf k.toNat s.1 s.2.1
 exact ⟨h1, h2, h.rest, h.rcap, h.big, X ++ Y, by rw [List.append_assoc, hX]; exact congrArg (X ++ ·) hY⟩
abbrev rdL (tb br : Nat) (a : Option Addr) (n c : Nat) (ra : Option Addr) (rn rc : Nat) (v : RV) (r : Rc) (s : Yo) : SH := [reC tb br ra rn rc v r s.2.2, rdC br a n c s.2.1]
theorem n8_spec (ρ : Hp) (br : Nat) {a n c ra rn rc R} {s : Yo} (h : RdAt ρ a n c ra rn rc R s) : Spec Tryz.prog 80 [.pointer (some ⟨br, 0, none⟩)] ρ [rdC br a n c s.2.1]
  (fun v ρ' L' => v = .int .u8 ((ZN 1 s).1 : Nat) ∧ ρ' = ρ ∧ ∃ a' n' c', RdAt ρ a' n' c' ra rn rc R (ZN 1 s).2 ∧ L' = [rdC br a' n' c' (ZN 1 s).2.2.1]) := by
 refine (u8_spec ρ br a n c s.1 h.at' h.cap s.2.1).mono ?_
 rintro v ρ' L' _ ⟨h1, h2, a', n', c', h3, h4, h5⟩
 exact ⟨h1, h2, a', n', c', h.num 1 h3 h4, h5⟩
theorem n16_spec (ρ : Hp) (br : Nat) {a n c ra rn rc R} {s : Yo} (h : RdAt ρ a n c ra rn rc R s) : Spec Tryz.prog 169 [.pointer (some ⟨br, 0, none⟩)] ρ [rdC br a n c s.2.1]
  (fun v ρ' L' => v = .int .u16 ((ZN 2 s).1 : Nat) ∧ ρ' = ρ ∧ ∃ a' n' c', RdAt ρ a' n' c' ra rn rc R (ZN 2 s).2 ∧ L' = [rdC br a' n' c' (ZN 2 s).2.2.1]) := by
 refine (u16_spec ρ br a n c s.1 h.at' h.cap s.2.1).mono ?_
 rintro v ρ' L' _ ⟨h1, h2, a', n', c', h3, h4, h5⟩
 exact ⟨h1, h2, a', n', c', h.num 2 h3 h4, h5⟩
theorem n32_spec (ρ : Hp) (br : Nat) {a n c ra rn rc R} {s : Yo} (h : RdAt ρ a n c ra rn rc R s) : Spec Tryz.prog 82 [.pointer (some ⟨br, 0, none⟩)] ρ [rdC br a n c s.2.1]
  (fun v ρ' L' => v = .int .u32 ((ZN 4 s).1 : Nat) ∧ ρ' = ρ ∧ ∃ a' n' c', RdAt ρ a' n' c' ra rn rc R (ZN 4 s).2 ∧ L' = [rdC br a' n' c' (ZN 4 s).2.2.1]) := by
 refine (u32_spec ρ br a n c s.1 h.at' h.cap s.2.1).mono ?_
 rintro v ρ' L' _ ⟨h1, h2, a', n', c', h3, h4, h5⟩
 exact ⟨h1, h2, a', n', c', h.num 4 h3 h4, h5⟩
theorem n64_spec (ρ : Hp) (br : Nat) {a n c ra rn rc R} {s : Yo} (h : RdAt ρ a n c ra rn rc R s) : Spec Tryz.prog 81 [.pointer (some ⟨br, 0, none⟩)] ρ [rdC br a n c s.2.1]
  (fun v ρ' L' => v = .int .u64 ((ZN 8 s).1 : Nat) ∧ ρ' = ρ ∧ ∃ a' n' c', RdAt ρ a' n' c' ra rn rc R (ZN 8 s).2 ∧ L' = [rdC br a' n' c' (ZN 8 s).2.2.1]) := by
 refine (u64_spec ρ br a n c s.1 h.at' h.cap s.2.1).mono ?_
 rintro v ρ' L' _ ⟨h1, h2, a', n', c', h3, h4, h5⟩
 exact ⟨h1, h2, a', n', c', h.num 8 h3 h4, h5⟩
theorem XE (k : Nat) (s : Yo) : (ZN k s).1 < 256 ^ k := Wc k s.1 s.2.1
theorem rdN_bad (k : Nat) (s : Yo) : (ZN k s).2.2.2 = s.2.2 := rfl
theorem rok_spec (ρ : Hp) (tb br : Nat) (a : Option Addr) (n c : Nat) (ra : Option Addr) (rn rc : Nat) (v : RV) (r : Rc) (s : Yo) : Spec Tryz.prog 88 [.pointer (some ⟨tb, 0, none⟩)] ρ (rdL tb br a n c ra rn rc v r s)
  (fun z ρ' L' => z = .bool (okS s) ∧ ρ' = ρ ∧ L' = rdL tb br a n c ra rn rc v r s) := by
 obtain ⟨l, st, bad⟩ := s
 unfold okS rdL
 refine Zf Tryz.func88 rfl rfl rfl fun u R => ?_
 simp only [Zx, List.cons_append, List.nil_append]
 cases bad
 ·repeat' (first | (refine Zc (.func 174) ?_; refine qC rfl rfl (Xm _ br a n c st) ?_; rintro v ρ' L' hle ⟨rfl, rfl, rfl⟩ <;> (try simp only [kM, kN, kO])) | (refine ZG ?_; refine Zn (Ze rfl) rfl rfl ?_) | (refine Zj ?_; first | (refine Zg ?_; refine qQ ?_) | refine Zl ?_) | refine Za ?_ | (refine Zi ?_; refine Zq ?_) | (refine Zh ?_; refine Zp ?_) | intro _)
  refine qF (L' := [reC tb br ra rn rc v r false, rdC br a n c st]) ?_
  exact ⟨YI (by (try simp [*]); first | done | omega | (intros; omega) | (constructor <;> intros <;> (try simp_all) <;> omega)), rfl, rfl⟩
 ·repeat' (first | (refine ZG ?_; refine Zn (Ze rfl) rfl rfl ?_) | (refine Zj ?_; first | (refine Zg ?_; refine qQ ?_) | refine Zl ?_) | refine Za ?_ | (refine Zi ?_; refine Zq ?_) | (refine Zh ?_; refine Zp ?_) | intro _)
  exact qE ⟨rfl, rfl, rfl⟩
theorem tkT_fst_bad {α : Type} {t : List UInt8 → α × Int × Int} {z : α} {s : Yo} (h : okS s = false) : tkT t z s = (z, s) := by unfold tkT; rw [h]; rfl
theorem tkT_err {α : Type} {t : List UInt8 → α × Int × Int} {z : α} {s : Yo} (h : okS s = true) (he : (t s.1).2.2 ≠ 0) : tkT t z s = (z, s.1, s.2.1, true) := by unfold tkT; rw [h, if_pos rfl, if_neg he]
theorem tkT_ok {α : Type} {t : List UInt8 → α × Int × Int} {z : α} {s : Yo} (h : okS s = true) (he : (t s.1).2.2 = 0) : tkT t z s = ((t s.1).1, skipS (t s.1).2.1 s) := by unfold tkT; rw [h, if_pos rfl, if_pos he]
theorem RdAt.flag {ρ a n c ra rn rc R l st b} (h : RdAt ρ a n c ra rn rc R (l, st, b)) (b' : Bool) : RdAt ρ a n c ra rn rc R (l, st, b') := ⟨h.at', h.cap, h.rest, h.rcap, h.big, h.suf⟩
theorem rtakenC_spec (ρ : Hp) (tb br : Nat) (v : RV) (r : Rc) (s : Yo) {a n c ra rn rc Rs} (h : RdAt ρ a n c ra rn rc Rs s) :
  Spec Tryz.prog 163 [.pointer (some ⟨tb, 0, none⟩), .func (.func 164) ⟨[]⟩ ⟨[]⟩] ρ (rdL tb br a n c ra rn rc v r s)
   (fun z ρ' L' => ρ.le ρ' ∧ ∃ cv a' n' c', z = .agg ⟨XJ (tkT ZA ztC s).1.kind cv⟩ ∧ CI ρ' cv (tkT ZA ztC s).1 ∧ RdAt ρ' a' n' c' ra rn rc Rs (tkT ZA ztC s).2 ∧ L' = rdL tb br a' n' c' ra rn rc v r (tkT ZA ztC s).2) := by
 have hok := rok_spec ρ tb br a n c ra rn rc v r s
 have hsl := h.at'.len
 have hrl := h.rest.len
 have hrb := h.big
 have hrc := h.rcap
 have hcap := h.cap
 obtain ⟨X, hX⟩ := h.suf
 have hXl := congrArg List.length hX
 rw [List.length_append] at hXl
 refine Zf Tryz.func163 rfl rfl rfl fun u R => ?_
 simp only [Zx, List.cons_append, List.nil_append]
 cases ho : okS s
 ·rw [ho] at hok
  rw [tkT_fst_bad ho]
  repeat' (first | (refine Zc (.func 88) ?_; refine qC rfl rfl (hok) ?_; rintro v ρ' L' hle ⟨rfl, rfl, rfl⟩ <;> (try simp only [kM, kN, kO])) | (refine ZG ?_; refine Zn (Ze rfl) rfl rfl ?_) | (refine Zj ?_; first | (refine Zg ?_; refine qQ ?_) | refine Zl ?_) | refine Za ?_ | (refine Zi ?_; refine Zq ?_) | (refine Zh ?_; refine Zp ?_) | intro _)
  exact qE ⟨Hp.le_refl _, YX, a, n, c, rfl, CI.nil, h, rfl⟩
 ·rw [ho] at hok
  obtain ⟨l, st, bad⟩ := s
  have h2 := okS_iff ho
  simp only [Prod.mk.injEq] at h2
  obtain ⟨rfl, rfl⟩ := h2
  dsimp only at hsl hX hXl
  have hlo : ((rn : Int) - (n : Int)).toNat = rn - n := by omega
  have hsub := h.rest.sub (lo' := ((rn : Int) - (n : Int)).toNat) (hi' := rn) (by omega) (Nat.le_refl _) (cap := rc) hrc
  have hdl : (List.drop ((rn : Int) - (n : Int)).toNat Rs).take (rn - ((rn : Int) - (n : Int)).toNat) = l := by
   rw [hlo, hX, show rn - n = X.length by omega, List.drop_left' rfl, List.take_of_length_le (by omega)]
  rw [hdl] at hsub
  have htc := takeCont_spec ρ _ _ (rc - ((rn : Int) - (n : Int)).toNat) l hsub (by omega)
  by_cases he : (ZA l).2.2 = 0
  ·obtain ⟨m, e1, hm, g1, g2, g3⟩ := takeCont_ok he
   have hraw := fun ρ (h : SIn ρ ZM a n l) => raw_spec ρ br a n c l h hcap 0 m (by omega)
   have hskip := fun {ρ a' n' c'} (h : RdAt ρ a n c ra rn rc Rs (l, 0, false)) (h1 : SIn ρ ZM a' n' (Wo m l 0).2.1) (h2 : n' ≤ c') => h.skip (m : Int) (by simpa using h1) h2
   rw [tkT_ok ho he]
   dsimp only
   rw [e1] at htc ⊢
   rw [he] at htc
   unfold skipS at hskip ⊢
   simp only [Int.toNat_natCast] at hskip ⊢
   generalize (ZA l).1 = x at *
   generalize Wo m l 0 = q at *
   repeat' (first | (refine Zc (.func 88) ?_; refine qC rfl rfl (hok) ?_; rintro v ρ' L' hle ⟨rfl, rfl, rfl⟩ <;> (try simp only [kM, kN, kO])) | (refine ZG ?_; refine Zn (Ze rfl) rfl rfl ?_) | (refine Zj ?_; first | (refine Zg ?_; refine qQ ?_) | refine Zl ?_) | refine Za ?_ | (refine Zi ?_; refine Zq ?_) | (refine Zh ?_; refine Zp ?_) | intro _)
   refine ZI (Zv _ _ _) ZC ?_
   all_goals (refine Ye 0 ?_; refine Ye 1 ?_; refine rNc 2 ?_; refine rFa 3 ?_; refine Yr 4 ?_; refine Ye 5 ?_; refine rNc 6 ?_; refine rFa 7 ?_; refine Yr 8 ?_; refine rBi 9 ?_; refine Ye 10 ?_; refine rNc 11 ?_; refine rFa 12 ?_; refine Yr 13 ?_)
   all_goals (refine Wp (i := 14) (j := 22) ?_ ?_ <;> ((try refine Zr ?_); (first | (refine Zc (.func 89) ?_; refine qC rfl rfl (Xq _ br a n c 0) ?_; rintro v ρ' L' hle ⟨rfl, rfl, rfl⟩ <;> (try simp only [kM, kN, kO])) | (refine Zl ?_; try intro _)) <;> ((try simp only [kM, kN, kO]); refine Za ?_; refine Zs ?_)))
   all_goals (first | refine rSb 15 ?_ | (refine Zt (i := 14) ?_; ((try refine Zr ?_); (first | (refine Zc (.func 89) ?_; refine qC rfl rfl (Xq _ br a n c 0) ?_; rintro v ρ' L' hle ⟨rfl, rfl, rfl⟩ <;> (try simp only [kM, kN, kO])) | (refine Zl ?_; try intro _)) <;> ((try simp only [kM, kN, kO]); refine Za ?_; refine Zs ?_))))
   all_goals (first | refine rSb 15 ?_ | refine rSl 16 ?_)
   all_goals (first | refine rSl 16 ?_ | (refine Wp (i := 17) (j := 22) ?_ ?_ <;> ((try refine Zr ?_); (first | (refine Zc (.tmp 14) ?_; refine qC rfl rfl (htc) ?_; rintro v ρ' L' hle ⟨hle1, w, rfl, hC, rfl⟩ <;> (try simp only [kM, kN, kO])) | (refine Zl ?_; try intro _)) <;> ((try simp only [kM, kN, kO]); refine Za ?_; refine Zs ?_))))
   all_goals (first | refine Ye 18 ?_ | (refine Zt (i := 17) ?_; ((try refine Zr ?_); (first | (refine Zc (.tmp 14) ?_; refine qC rfl rfl (htc) ?_; rintro v ρ' L' hle ⟨hle1, w, rfl, hC, rfl⟩ <;> (try simp only [kM, kN, kO])) | (refine Zl ?_; try intro _)) <;> ((try simp only [kM, kN, kO]); refine Za ?_; refine Zs ?_))))
   all_goals (first | refine Ye 18 ?_ | refine rEx 19 ?_)
   all_goals (first | refine rEx 19 ?_ | refine rEx 20 ?_)
   all_goals (first | refine rEx 20 ?_ | refine rEx 21 ?_)
   all_goals (first | refine rEx 21 ?_ | (refine Zt (i := 22) ?_; ((try refine Zr ?_); (first | (refine Zl ?_; try intro _)) <;> ((try simp only [kM, kN, kO]); refine Za ?_; refine Zs ?_))))
   all_goals (refine Zt (i := 23) ?_; ((try refine Zr ?_); (first | (refine Zl ?_; try intro _)) <;> ((try simp only [kM, kN, kO]); refine Za ?_; refine Zs ?_)))
   all_goals (refine Yi ?_; refine rAs 24 ?_; refine rAs 25 ?_; refine ZP ?_)
   all_goals (repeat' (first | (refine Zc (.func 236) ?_; refine qC rfl rfl (hraw _ (h.at'.mono (by assumption))) ?_; rintro v ρ' L' hle ⟨hle2, va, vn, vc, a', n', c', rfl, hvc, hs1, hs2, hc', rfl⟩ <;> (try simp only [kM, kN, kO])) | (refine ZG ?_; refine Zn (Ze rfl) rfl rfl ?_) | (refine Zj ?_; first | (refine Zg ?_; refine qQ ?_) | refine Zl ?_) | refine Za ?_ | (refine Zi ?_; refine Zq ?_) | (refine Zh ?_; refine Zp ?_) | intro _))
   all_goals exact qE ⟨Hp.le_trans hle1 hle2, w, a', n', c', rfl, ⟨hC.mono hle2, g3.row, fun k hk => (g3.kid k hk).id⟩, hskip (h.mono (Hp.le_trans hle1 hle2)) hs2 hc', rfl⟩
  ·rw [tkT_err ho he]
   obtain ⟨f1, f2⟩ := takeCont_bad he
   rw [f1, f2] at htc
   dsimp only
   generalize (ZA l).2.2 = e at *
   repeat' (first | (refine Zc (.func 88) ?_; refine qC rfl rfl (hok) ?_; rintro v ρ' L' hle ⟨rfl, rfl, rfl⟩ <;> (try simp only [kM, kN, kO])) | (refine ZG ?_; refine Zn (Ze rfl) rfl rfl ?_) | (refine Zj ?_; first | (refine Zg ?_; refine qQ ?_) | refine Zl ?_) | refine Za ?_ | (refine Zi ?_; refine Zq ?_) | (refine Zh ?_; refine Zp ?_) | intro _)
   refine ZI (Zv _ _ _) ZC ?_
   all_goals (refine Ye 0 ?_; refine Ye 1 ?_; refine rNc 2 ?_; refine rFa 3 ?_; refine Yr 4 ?_; refine Ye 5 ?_; refine rNc 6 ?_; refine rFa 7 ?_; refine Yr 8 ?_; refine rBi 9 ?_; refine Ye 10 ?_; refine rNc 11 ?_; refine rFa 12 ?_; refine Yr 13 ?_)
   all_goals (refine Wp (i := 14) (j := 22) ?_ ?_ <;> ((try refine Zr ?_); (first | (refine Zc (.func 89) ?_; refine qC rfl rfl (Xq _ br a n c 0) ?_; rintro v ρ' L' hle ⟨rfl, rfl, rfl⟩ <;> (try simp only [kM, kN, kO])) | (refine Zl ?_; try intro _)) <;> ((try simp only [kM, kN, kO]); refine Za ?_; refine Zs ?_)))
   all_goals (first | refine rSb 15 ?_ | (refine Zt (i := 14) ?_; ((try refine Zr ?_); (first | (refine Zc (.func 89) ?_; refine qC rfl rfl (Xq _ br a n c 0) ?_; rintro v ρ' L' hle ⟨rfl, rfl, rfl⟩ <;> (try simp only [kM, kN, kO])) | (refine Zl ?_; try intro _)) <;> ((try simp only [kM, kN, kO]); refine Za ?_; refine Zs ?_))))
   all_goals (first | refine rSb 15 ?_ | refine rSl 16 ?_)
   all_goals (first | refine rSl 16 ?_ | (refine Wp (i := 17) (j := 22) ?_ ?_ <;> ((try refine Zr ?_); (first | (refine Zc (.tmp 14) ?_; refine qC rfl rfl (htc) ?_; rintro v ρ' L' hle ⟨hle1, w, rfl, hC, rfl⟩ <;> (try simp only [kM, kN, kO])) | (refine Zl ?_; try intro _)) <;> ((try simp only [kM, kN, kO]); refine Za ?_; refine Zs ?_))))
   all_goals (first | refine Ye 18 ?_ | (refine Zt (i := 17) ?_; ((try refine Zr ?_); (first | (refine Zc (.tmp 14) ?_; refine qC rfl rfl (htc) ?_; rintro v ρ' L' hle ⟨hle1, w, rfl, hC, rfl⟩ <;> (try simp only [kM, kN, kO])) | (refine Zl ?_; try intro _)) <;> ((try simp only [kM, kN, kO]); refine Za ?_; refine Zs ?_))))
   all_goals (first | refine Ye 18 ?_ | refine rEx 19 ?_)
   all_goals (first | refine rEx 19 ?_ | refine rEx 20 ?_)
   all_goals (first | refine rEx 20 ?_ | refine rEx 21 ?_)
   all_goals (first | refine rEx 21 ?_ | (refine Zt (i := 22) ?_; ((try refine Zr ?_); (first | (refine Zl ?_; try intro _)) <;> ((try simp only [kM, kN, kO]); refine Za ?_; refine Zs ?_))))
   all_goals (refine Zt (i := 23) ?_; ((try refine Zr ?_); (first | (refine Zl ?_; try intro _)) <;> ((try simp only [kM, kN, kO]); refine Za ?_; refine Zs ?_)))
   all_goals (refine Yi ?_; refine rAs 24 ?_; refine rAs 25 ?_; refine ZP ?_)
   all_goals (repeat' (first | (refine ZG ?_; refine Zn (Ze rfl) rfl rfl ?_) | (refine Zj ?_; first | (refine Zg ?_; refine qQ ?_) | refine Zl ?_) | refine Za ?_ | (refine Zi ?_; refine Zq ?_) | (refine Zh ?_; refine Zp ?_) | intro _))
   all_goals exact qE ⟨hle1, YX, a, n, c, rfl, CI.nil, (h.mono hle1).flag true, rfl⟩
theorem rowFit_z : YC ztR := ⟨by decide, by decide⟩
theorem takeRow_bad {l : List UInt8} (h : (Ym l).2.2 ≠ 0) : (Ym l).1 = ztR ∧ (Ym l).2.1 = 0 := by
 unfold Ym at h ⊢
 dsimp only at h ⊢
 generalize XL l 0 false = r at *
 obtain ⟨x, l2, st2, b2⟩ := r
 dsimp only at h ⊢
 unfold XD at h
 unfold Ww
 cases b2
 ·simp only [Bool.false_eq_true, if_false] at h ⊢
  simp [h]
 ·simp
theorem rtakenR_spec (ρ : Hp) (tb br : Nat) (v : RV) (r : Rc) (s : Yo) {a n c ra rn rc Rs} (h : RdAt ρ a n c ra rn rc Rs s) :
  Spec Tryz.prog 167 [.pointer (some ⟨tb, 0, none⟩), .func (.func 168) ⟨[]⟩ ⟨[]⟩] ρ (rdL tb br a n c ra rn rc v r s)
   (fun z ρ' L' => ρ.le ρ' ∧ YC (tkT Ym ztR s).1 ∧ ∃ a' n' c', z = .agg ⟨YY (tkT Ym ztR s).1⟩ ∧ RdAt ρ' a' n' c' ra rn rc Rs (tkT Ym ztR s).2 ∧ L' = rdL tb br a' n' c' ra rn rc v r (tkT Ym ztR s).2) := by
 have hok := rok_spec ρ tb br a n c ra rn rc v r s
 have hsl := h.at'.len
 have hrl := h.rest.len
 have hrb := h.big
 have hrc := h.rcap
 have hcap := h.cap
 obtain ⟨X, hX⟩ := h.suf
 have hXl := congrArg List.length hX
 rw [List.length_append] at hXl
 refine Zf Tryz.func167 rfl rfl rfl fun u R => ?_
 simp only [Zx, List.cons_append, List.nil_append]
 cases ho : okS s
 ·rw [ho] at hok
  rw [tkT_fst_bad ho]
  repeat' (first | (refine Zc (.func 88) ?_; refine qC rfl rfl (hok) ?_; rintro v ρ' L' hle ⟨rfl, rfl, rfl⟩ <;> (try simp only [kM, kN, kO])) | (refine ZG ?_; refine Zn (Ze rfl) rfl rfl ?_) | (refine Zj ?_; first | (refine Zg ?_; refine qQ ?_) | refine Zl ?_) | refine Za ?_ | (refine Zi ?_; refine Zq ?_) | (refine Zh ?_; refine Zp ?_) | intro _)
  exact qE ⟨Hp.le_refl _, rowFit_z, a, n, c, rfl, h, rfl⟩
 ·rw [ho] at hok
  obtain ⟨l, st, bad⟩ := s
  have h2 := okS_iff ho
  simp only [Prod.mk.injEq] at h2
  obtain ⟨rfl, rfl⟩ := h2
  dsimp only at hsl hX hXl
  have hlo : ((rn : Int) - (n : Int)).toNat = rn - n := by omega
  have hsub := h.rest.sub (lo' := ((rn : Int) - (n : Int)).toNat) (hi' := rn) (by omega) (Nat.le_refl _) (cap := rc) hrc
  have hdl : (List.drop ((rn : Int) - (n : Int)).toNat Rs).take (rn - ((rn : Int) - (n : Int)).toNat) = l := by
   rw [hlo, hX, show rn - n = X.length by omega, List.drop_left' rfl, List.take_of_length_le (by omega)]
  rw [hdl] at hsub
  have htc := takeRow_spec ρ _ _ (rc - ((rn : Int) - (n : Int)).toNat) l hsub (by omega)
  by_cases he : (Ym l).2.2 = 0
  ·obtain ⟨m, e1, hm, g1, g2, g3⟩ := takeRow_ok he
   have hraw := fun ρ (h : SIn ρ ZM a n l) => raw_spec ρ br a n c l h hcap 0 m (by omega)
   have hskip := fun {ρ a' n' c'} (h : RdAt ρ a n c ra rn rc Rs (l, 0, false)) (h1 : SIn ρ ZM a' n' (Wo m l 0).2.1) (h2 : n' ≤ c') => h.skip (m : Int) (by simpa using h1) h2
   rw [tkT_ok ho he]
   dsimp only
   rw [e1] at htc ⊢
   rw [he] at htc
   unfold skipS at hskip ⊢
   simp only [Int.toNat_natCast] at hskip ⊢
   generalize (Ym l).1 = x at *
   generalize Wo m l 0 = q at *
   repeat' (first | (refine Zc (.func 88) ?_; refine qC rfl rfl (hok) ?_; rintro v ρ' L' hle ⟨rfl, rfl, rfl⟩ <;> (try simp only [kM, kN, kO])) | (refine ZG ?_; refine Zn (Ze rfl) rfl rfl ?_) | (refine Zj ?_; first | (refine Zg ?_; refine qQ ?_) | refine Zl ?_) | refine Za ?_ | (refine Zi ?_; refine Zq ?_) | (refine Zh ?_; refine Zp ?_) | intro _)
   refine ZI (Zv _ _ _) ZC ?_
   all_goals (refine Ye 0 ?_; refine Ye 1 ?_; refine rNc 2 ?_; refine rFa 3 ?_; refine Yr 4 ?_; refine Ye 5 ?_; refine rNc 6 ?_; refine rFa 7 ?_; refine Yr 8 ?_; refine rBi 9 ?_; refine Ye 10 ?_; refine rNc 11 ?_; refine rFa 12 ?_; refine Yr 13 ?_)
   all_goals (refine Wp (i := 14) (j := 22) ?_ ?_ <;> ((try refine Zr ?_); (first | (refine Zc (.func 89) ?_; refine qC rfl rfl (Xq _ br a n c 0) ?_; rintro v ρ' L' hle ⟨rfl, rfl, rfl⟩ <;> (try simp only [kM, kN, kO])) | (refine Zl ?_; try intro _)) <;> ((try simp only [kM, kN, kO]); refine Za ?_; refine Zs ?_)))
   all_goals (first | refine rSb 15 ?_ | (refine Zt (i := 14) ?_; ((try refine Zr ?_); (first | (refine Zc (.func 89) ?_; refine qC rfl rfl (Xq _ br a n c 0) ?_; rintro v ρ' L' hle ⟨rfl, rfl, rfl⟩ <;> (try simp only [kM, kN, kO])) | (refine Zl ?_; try intro _)) <;> ((try simp only [kM, kN, kO]); refine Za ?_; refine Zs ?_))))
   all_goals (first | refine rSb 15 ?_ | refine rSl 16 ?_)
   all_goals (first | refine rSl 16 ?_ | (refine Wp (i := 17) (j := 22) ?_ ?_ <;> ((try refine Zr ?_); (first | (refine Zc (.tmp 14) ?_; refine qC rfl rfl (htc) ?_; rintro v ρ' L' hle ⟨rfl, hle1, rfl⟩ <;> (try simp only [kM, kN, kO])) | (refine Zl ?_; try intro _)) <;> ((try simp only [kM, kN, kO]); refine Za ?_; refine Zs ?_))))
   all_goals (first | refine Ye 18 ?_ | (refine Zt (i := 17) ?_; ((try refine Zr ?_); (first | (refine Zc (.tmp 14) ?_; refine qC rfl rfl (htc) ?_; rintro v ρ' L' hle ⟨rfl, hle1, rfl⟩ <;> (try simp only [kM, kN, kO])) | (refine Zl ?_; try intro _)) <;> ((try simp only [kM, kN, kO]); refine Za ?_; refine Zs ?_))))
   all_goals (first | refine Ye 18 ?_ | refine rEx 19 ?_)
   all_goals (first | refine rEx 19 ?_ | refine rEx 20 ?_)
   all_goals (first | refine rEx 20 ?_ | refine rEx 21 ?_)
   all_goals (first | refine rEx 21 ?_ | (refine Zt (i := 22) ?_; ((try refine Zr ?_); (first | (refine Zl ?_; try intro _)) <;> ((try simp only [kM, kN, kO]); refine Za ?_; refine Zs ?_))))
   all_goals (refine Zt (i := 23) ?_; ((try refine Zr ?_); (first | (refine Zl ?_; try intro _)) <;> ((try simp only [kM, kN, kO]); refine Za ?_; refine Zs ?_)))
   all_goals (refine Yi ?_; refine rAs 24 ?_; refine rAs 25 ?_; refine ZP ?_)
   all_goals (repeat' (first | (refine Zc (.func 236) ?_; refine qC rfl rfl (hraw _ (h.at'.mono (by assumption))) ?_; rintro v ρ' L' hle ⟨hle2, va, vn, vc, a', n', c', rfl, hvc, hs1, hs2, hc', rfl⟩ <;> (try simp only [kM, kN, kO])) | (refine ZG ?_; refine Zn (Ze rfl) rfl rfl ?_) | (refine Zj ?_; first | (refine Zg ?_; refine qQ ?_) | refine Zl ?_) | refine Za ?_ | (refine Zi ?_; refine Zq ?_) | (refine Zh ?_; refine Zp ?_) | intro _))
   all_goals exact qE ⟨Hp.le_trans hle1 hle2, g3, a', n', c', rfl, hskip (h.mono (Hp.le_trans hle1 hle2)) hs2 hc', rfl⟩
  ·rw [tkT_err ho he]
   obtain ⟨f1, f2⟩ := takeRow_bad he
   rw [f1, f2] at htc
   dsimp only
   generalize (Ym l).2.2 = e at *
   repeat' (first | (refine Zc (.func 88) ?_; refine qC rfl rfl (hok) ?_; rintro v ρ' L' hle ⟨rfl, rfl, rfl⟩ <;> (try simp only [kM, kN, kO])) | (refine ZG ?_; refine Zn (Ze rfl) rfl rfl ?_) | (refine Zj ?_; first | (refine Zg ?_; refine qQ ?_) | refine Zl ?_) | refine Za ?_ | (refine Zi ?_; refine Zq ?_) | (refine Zh ?_; refine Zp ?_) | intro _)
   refine ZI (Zv _ _ _) ZC ?_
   all_goals (refine Ye 0 ?_; refine Ye 1 ?_; refine rNc 2 ?_; refine rFa 3 ?_; refine Yr 4 ?_; refine Ye 5 ?_; refine rNc 6 ?_; refine rFa 7 ?_; refine Yr 8 ?_; refine rBi 9 ?_; refine Ye 10 ?_; refine rNc 11 ?_; refine rFa 12 ?_; refine Yr 13 ?_)
   all_goals (refine Wp (i := 14) (j := 22) ?_ ?_ <;> ((try refine Zr ?_); (first | (refine Zc (.func 89) ?_; refine qC rfl rfl (Xq _ br a n c 0) ?_; rintro v ρ' L' hle ⟨rfl, rfl, rfl⟩ <;> (try simp only [kM, kN, kO])) | (refine Zl ?_; try intro _)) <;> ((try simp only [kM, kN, kO]); refine Za ?_; refine Zs ?_)))
   all_goals (first | refine rSb 15 ?_ | (refine Zt (i := 14) ?_; ((try refine Zr ?_); (first | (refine Zc (.func 89) ?_; refine qC rfl rfl (Xq _ br a n c 0) ?_; rintro v ρ' L' hle ⟨rfl, rfl, rfl⟩ <;> (try simp only [kM, kN, kO])) | (refine Zl ?_; try intro _)) <;> ((try simp only [kM, kN, kO]); refine Za ?_; refine Zs ?_))))
   all_goals (first | refine rSb 15 ?_ | refine rSl 16 ?_)
   all_goals (first | refine rSl 16 ?_ | (refine Wp (i := 17) (j := 22) ?_ ?_ <;> ((try refine Zr ?_); (first | (refine Zc (.tmp 14) ?_; refine qC rfl rfl (htc) ?_; rintro v ρ' L' hle ⟨rfl, hle1, rfl⟩ <;> (try simp only [kM, kN, kO])) | (refine Zl ?_; try intro _)) <;> ((try simp only [kM, kN, kO]); refine Za ?_; refine Zs ?_))))
   all_goals (first | refine Ye 18 ?_ | (refine Zt (i := 17) ?_; ((try refine Zr ?_); (first | (refine Zc (.tmp 14) ?_; refine qC rfl rfl (htc) ?_; rintro v ρ' L' hle ⟨rfl, hle1, rfl⟩ <;> (try simp only [kM, kN, kO])) | (refine Zl ?_; try intro _)) <;> ((try simp only [kM, kN, kO]); refine Za ?_; refine Zs ?_))))
   all_goals (first | refine Ye 18 ?_ | refine rEx 19 ?_)
   all_goals (first | refine rEx 19 ?_ | refine rEx 20 ?_)
   all_goals (first | refine rEx 20 ?_ | refine rEx 21 ?_)
   all_goals (first | refine rEx 21 ?_ | (refine Zt (i := 22) ?_; ((try refine Zr ?_); (first | (refine Zl ?_; try intro _)) <;> ((try simp only [kM, kN, kO]); refine Za ?_; refine Zs ?_))))
   all_goals (refine Zt (i := 23) ?_; ((try refine Zr ?_); (first | (refine Zl ?_; try intro _)) <;> ((try simp only [kM, kN, kO]); refine Za ?_; refine Zs ?_)))
   all_goals (refine Yi ?_; refine rAs 24 ?_; refine rAs 25 ?_; refine ZP ?_)
   all_goals (repeat' (first | (refine ZG ?_; refine Zn (Ze rfl) rfl rfl ?_) | (refine Zj ?_; first | (refine Zg ?_; refine qQ ?_) | refine Zl ?_) | refine Za ?_ | (refine Zi ?_; refine Zq ?_) | (refine Zh ?_; refine Zp ?_) | intro _))
   all_goals exact qE ⟨hle1, rowFit_z, a, n, c, rfl, (h.mono hle1).flag true, rfl⟩
abbrev cbC (cb tb : Nat) : List (Nat × Obj) := [(cb, .cells ⟨[.pointer (some ⟨tb, 0, none⟩)]⟩ 134 (0, 0))]
theorem rchange1_spec (ρ : Hp) (tb br cb : Nat) (v : RV) (r : Rc) (s : Yo) {a n c ra rn rc Rs} (h : RdAt ρ a n c ra rn rc Rs s) :
  Spec Tryz.prog 162 [.pointer (some ⟨cb, 0, none⟩)] ρ (cbC cb tb :: rdL tb br a n c ra rn rc v r s)
   (fun z ρ' L' => ρ.le ρ' ∧ ∃ x a' n' c', z = .agg ⟨imV x⟩ ∧ Im.In ρ' x ∧ x.plain = (imD (decide (r.kind = 2)) s).1 ∧ RdAt ρ' a' n' c' ra rn rc Rs (imD (decide (r.kind = 2)) s).2 ∧ L' = cbC cb tb :: rdL tb br a' n' c' ra rn rc v r (imD (decide (r.kind = 2)) s).2) := by
 have h8 := n8_spec ρ br h
 have hlt := XE 1 s
 unfold imD
 rw [show rdL tb br a n c ra rn rc v r s = [reC tb br ra rn rc v r (ZN 1 s).2.2.2, rdC br a n c s.2.1] from rfl]
 generalize ZN 1 s = p at *
 obtain ⟨x1, s1⟩ := p
 dsimp only at h8 hlt ⊢
 unfold imDa imDb
 have hC := fun ρ a n c (h : RdAt ρ a n c ra rn rc Rs s1) => rtakenC_spec ρ tb br v r s1 h
 refine Zf Tryz.func162 rfl rfl rfl fun u R => ?_
 simp only [Zx, List.cons_append, List.nil_append]
 by_cases h2 : r.kind = 2
 ·simp only [decide_eq_true h2, if_true]
  generalize tkT ZA ztC s1 = q1 at *
  obtain ⟨b, s2⟩ := q1
  dsimp only at hC ⊢
  have hC2 := fun ρ a n c (h : RdAt ρ a n c ra rn rc Rs s2) => rtakenC_spec ρ tb br v r s2 h
  generalize tkT ZA ztC s2 = q2 at *
  obtain ⟨ca, s3⟩ := q2
  dsimp only at hC2 ⊢
  repeat' (first | (refine Zc (.func 80) ?_; refine qC rfl rfl (h8) ?_; rintro v ρ' L' hle ⟨rfl, rfl, a1, n1, c1, h1, rfl⟩ <;> (try simp only [kM, kN, kO])) | (refine Zc (.func 163) ?_; refine qC rfl rfl (hC _ _ _ _ h1) ?_; rintro v ρ' L' hle ⟨hl2, w2, a2, n2, c2, rfl, hw2, g2, rfl⟩ <;> (try simp only [kM, kN, kO])) | (refine Zc (.func 163) ?_; refine qC rfl rfl (hC2 _ _ _ _ g2) ?_; rintro v ρ' L' hle ⟨hl3, w3, a3, n3, c3, rfl, hw3, g3, rfl⟩ <;> (try simp only [kM, kN, kO])) | (refine ZG ?_; refine Zn (Ze rfl) rfl rfl ?_) | (refine Zj ?_; first | (refine Zg ?_; refine qQ ?_) | refine Zl ?_) | refine Za ?_ | (refine Zi ?_; refine Zq ?_) | (refine Zh ?_; refine Zp ?_) | intro _)
  exact qE ⟨Hp.le_trans hl2 hl3, ⟨x1, w2, b, w3, ca⟩, a3, n3, c3, rfl, ⟨hw2.mono hl3, hw3⟩, rfl, g3, rfl⟩
 ·simp only [decide_eq_false h2, Bool.false_eq_true, if_false]
  generalize tkT ZA ztC s1 = q1 at *
  obtain ⟨ca, s2⟩ := q1
  dsimp only at hC ⊢
  repeat' (first | (refine Zc (.func 80) ?_; refine qC rfl rfl (h8) ?_; rintro v ρ' L' hle ⟨rfl, rfl, a1, n1, c1, h1, rfl⟩ <;> (try simp only [kM, kN, kO])) | (refine Zc (.func 163) ?_; refine qC rfl rfl (hC _ _ _ _ h1) ?_; rintro v ρ' L' hle ⟨hl2, w2, a2, n2, c2, rfl, hw2, g2, rfl⟩ <;> (try simp only [kM, kN, kO])) | (refine ZG ?_; refine Zn (Ze rfl) rfl rfl ?_) | (refine Zj ?_; first | (refine Zg ?_; refine qQ ?_) | refine Zl ?_) | refine Za ?_ | (refine Zi ?_; refine Zq ?_) | (refine Zh ?_; refine Zp ?_) | intro _)
  exact qE ⟨hl2, ⟨x1, YX, ztC, w2, ca⟩, a2, n2, c2, rfl, ⟨CI.nil, hw2⟩, rfl, g2, rfl⟩
theorem rdone1_spec (ρ : Hp) (tb br cb : Nat) (v : RV) (r : Rc) (s : Yo) {a n c ra rn rc Rs} (h : RdAt ρ a n c ra rn rc Rs s) :
  Spec Tryz.prog 166 [.pointer (some ⟨cb, 0, none⟩)] ρ (cbC cb tb :: rdL tb br a n c ra rn rc v r s)
   (fun z ρ' L' => ρ.le ρ' ∧ z = .agg ⟨XT (XU s).1⟩ ∧ YC (XU s).1.row ∧ ∃ a' n' c', RdAt ρ' a' n' c' ra rn rc Rs (XU s).2 ∧ L' = cbC cb tb :: rdL tb br a' n' c' ra rn rc v r (XU s).2) := by
 have h8 := n8_spec ρ br h
 have hlt := XE 1 s
 unfold XU
 rw [show rdL tb br a n c ra rn rc v r s = [reC tb br ra rn rc v r (ZN 1 s).2.2.2, rdC br a n c s.2.1] from rfl]
 generalize ZN 1 s = p at *
 obtain ⟨x1, s1⟩ := p
 dsimp only at h8 hlt ⊢
 refine Zf Tryz.func166 rfl rfl rfl fun u R => ?_
 simp only [Zx, List.cons_append, List.nil_append]
 by_cases h23 : x1 = 2 ∨ x1 = 3
 ·unfold stpDt stpDr
  rw [if_pos h23]
  have hC := fun ρ a n c (h : RdAt ρ a n c ra rn rc Rs s1) => rtakenR_spec ρ tb br v r s1 h
  generalize tkT Ym ztR s1 = q1 at *
  obtain ⟨b, s2⟩ := q1
  dsimp only at hC ⊢
  rcases h23 with e | e
  all_goals (repeat' (first | (refine Zc (.func 80) ?_; refine qC rfl rfl (h8) ?_; rintro v ρ' L' hle ⟨rfl, rfl, a1, n1, c1, h1, rfl⟩ <;> (try simp only [kM, kN, kO])) | (refine Zc (.func 167) ?_; refine qC rfl rfl (hC _ _ _ _ h1) ?_; rintro v ρ' L' hle ⟨hl2, hf, a2, n2, c2, rfl, g2, rfl⟩ <;> (try simp only [kM, kN, kO])) | (refine ZG ?_; refine Zn (Ze rfl) rfl rfl ?_) | (refine Zj ?_; first | (refine Zg ?_; refine qQ ?_) | refine Zl ?_) | refine Za ?_ | (refine Zi ?_; refine Zq ?_) | (refine Zh ?_; refine Zp ?_) | intro _))
  all_goals exact qE ⟨hl2, rfl, hf, a2, n2, c2, g2, rfl⟩
 ·unfold stpDt stpDi
  rw [if_neg h23]
  have k8 := fun ρ a n c (h : RdAt ρ a n c ra rn rc Rs s1) => n8_spec ρ br h
  have hlt1 := XE 1 s1
  rw [show s1.2.2 = (ZN 1 s1).2.2.2 from rfl]
  generalize ZN 1 s1 = p1 at *
  obtain ⟨x2, s2⟩ := p1
  dsimp only at k8 hlt1 ⊢
  have k16 := fun ρ a n c (h : RdAt ρ a n c ra rn rc Rs s2) => n16_spec ρ br h
  have hlt2 := XE 2 s2
  rw [show s2.2.2 = (ZN 2 s2).2.2.2 from rfl]
  generalize ZN 2 s2 = p2 at *
  obtain ⟨x3, s3⟩ := p2
  dsimp only at k16 hlt2 ⊢
  unfold stpDb
  by_cases hx1 : x1 = 1
  ·rw [if_pos hx1]
   have k64 := fun ρ a n c (h : RdAt ρ a n c ra rn rc Rs s3) => n64_spec ρ br h
   have hlt3 := XE 8 s3
   rw [show s3.2.2 = (ZN 8 s3).2.2.2 from rfl]
   generalize ZN 8 s3 = p3 at *
   obtain ⟨x4, s4⟩ := p3
   dsimp only at k64 hlt3 ⊢
   repeat' (first | (refine Zc (.func 80) ?_; refine qC rfl rfl (h8) ?_; rintro v ρ' L' hle ⟨rfl, rfl, a1, n1, c1, h1, rfl⟩ <;> (try simp only [kM, kN, kO])) | (refine Zc (.func 80) ?_; refine qC rfl rfl (k8 _ _ _ _ h1) ?_; rintro v ρ' L' hle ⟨rfl, rfl, a2, n2, c2, h2, rfl⟩ <;> (try simp only [kM, kN, kO])) | (refine Zc (.func 169) ?_; refine qC rfl rfl (k16 _ _ _ _ h2) ?_; rintro v ρ' L' hle ⟨rfl, rfl, a3, n3, c3, h3, rfl⟩ <;> (try simp only [kM, kN, kO])) | (refine Zc (.func 81) ?_; refine qC rfl rfl (k64 _ _ _ _ h3) ?_; rintro v ρ' L' hle ⟨rfl, rfl, a4, n4, c4, h4, rfl⟩ <;> (try simp only [kM, kN, kO])) | (refine ZG ?_; refine Zn (Ze rfl) rfl rfl ?_) | (refine Zj ?_; first | (refine Zg ?_; refine qQ ?_) | refine Zl ?_) | refine Za ?_ | (refine Zi ?_; refine Zq ?_) | (refine Zh ?_; refine Zp ?_) | intro _)
   exact qE ⟨Hp.le_refl _, rfl, ⟨by dsimp only; omega, by dsimp only; decide⟩, a4, n4, c4, h4, rfl⟩
  ·rw [if_neg hx1]
   repeat' (first | (refine Zc (.func 80) ?_; refine qC rfl rfl (h8) ?_; rintro v ρ' L' hle ⟨rfl, rfl, a1, n1, c1, h1, rfl⟩ <;> (try simp only [kM, kN, kO])) | (refine Zc (.func 80) ?_; refine qC rfl rfl (k8 _ _ _ _ h1) ?_; rintro v ρ' L' hle ⟨rfl, rfl, a2, n2, c2, h2, rfl⟩ <;> (try simp only [kM, kN, kO])) | (refine Zc (.func 169) ?_; refine qC rfl rfl (k16 _ _ _ _ h2) ?_; rintro v ρ' L' hle ⟨rfl, rfl, a3, n3, c3, h3, rfl⟩ <;> (try simp only [kM, kN, kO])) | (refine ZG ?_; refine Zn (Ze rfl) rfl rfl ?_) | (refine Zj ?_; first | (refine Zg ?_; refine qQ ?_) | refine Zl ?_) | refine Za ?_ | (refine Zi ?_; refine Zq ?_) | (refine Zh ?_; refine Zp ?_) | intro _)
   exact qE ⟨Hp.le_refl _, rfl, ⟨by dsimp only; omega, by dsimp only; decide⟩, a3, n3, c3, h3, rfl⟩
theorem rckpt2_spec (ρ : Hp) (tb br cb : Nat) (v : RV) (r : Rc) (s : Yo) {a n c ra rn rc Rs} (h : RdAt ρ a n c ra rn rc Rs s) :
  Spec Tryz.prog 173 [.pointer (some ⟨cb, 0, none⟩)] ρ (cbC cb tb :: rdL tb br a n c ra rn rc v r s)
   (fun z ρ' L' => ρ.le ρ' ∧ z = .agg ⟨XF (ckPD s).1⟩ ∧ True ∧ ∃ a' n' c', RdAt ρ' a' n' c' ra rn rc Rs (ckPD s).2 ∧ L' = cbC cb tb :: rdL tb br a' n' c' ra rn rc v r (ckPD s).2) := by
 have h8 := n8_spec ρ br h
 have hlt := XE 1 s
 unfold ckPD
 rw [show rdL tb br a n c ra rn rc v r s = [reC tb br ra rn rc v r (ZN 1 s).2.2.2, rdC br a n c s.2.1] from rfl]
 generalize ZN 1 s = p at *
 obtain ⟨x1, s1⟩ := p
 dsimp only at h8 hlt ⊢
 unfold ckPr
 have k64 := fun ρ a n c (h : RdAt ρ a n c ra rn rc Rs s1) => n64_spec ρ br h
 have hlt3 := XE 8 s1
 rw [show s1.2.2 = (ZN 8 s1).2.2.2 from rfl]
 generalize ZN 8 s1 = p3 at *
 obtain ⟨x4, s4⟩ := p3
 dsimp only at k64 hlt3 ⊢
 refine Zf Tryz.func173 rfl rfl rfl fun u R => ?_
 simp only [Zx, List.cons_append, List.nil_append]
 repeat' (first | (refine Zc (.func 80) ?_; refine qC rfl rfl (h8) ?_; rintro v ρ' L' hle ⟨rfl, rfl, a1, n1, c1, h1, rfl⟩ <;> (try simp only [kM, kN, kO])) | (refine Zc (.func 81) ?_; refine qC rfl rfl (k64 _ _ _ _ h1) ?_; rintro v ρ' L' hle ⟨rfl, rfl, a4, n4, c4, h4, rfl⟩ <;> (try simp only [kM, kN, kO])) | (refine ZG ?_; refine Zn (Ze rfl) rfl rfl ?_) | (refine Zj ?_; first | (refine Zg ?_; refine qQ ?_) | refine Zl ?_) | refine Za ?_ | (refine Zi ?_; refine Zq ?_) | (refine Zh ?_; refine Zp ?_) | intro _)
 exact qE ⟨Hp.le_refl _, rfl, trivial, a4, n4, c4, h4, rfl⟩
theorem rckpt1_spec (ρ : Hp) (tb br cb : Nat) (v : RV) (r : Rc) (s : Yo) {a n c ra rn rc Rs} (h : RdAt ρ a n c ra rn rc Rs s) :
  Spec Tryz.prog 171 [.pointer (some ⟨cb, 0, none⟩)] ρ (cbC cb tb :: rdL tb br a n c ra rn rc v r s)
   (fun z ρ' L' => ρ.le ρ' ∧ z = .agg ⟨Xk (ckTD s).1⟩ ∧ True ∧ ∃ a' n' c', RdAt ρ' a' n' c' ra rn rc Rs (ckTD s).2 ∧ L' = cbC cb tb :: rdL tb br a' n' c' ra rn rc v r (ckTD s).2) := by
 have h8 := n32_spec ρ br h
 have hlt := XE 4 s
 unfold ckTD
 rw [show rdL tb br a n c ra rn rc v r s = [reC tb br ra rn rc v r (ZN 4 s).2.2.2, rdC br a n c s.2.1] from rfl]
 generalize ZN 4 s = p at *
 obtain ⟨x1, s1⟩ := p
 dsimp only at h8 hlt ⊢
 unfold ckTf
 have k1 := fun ρ a n c (h : RdAt ρ a n c ra rn rc Rs s1) => n64_spec ρ br h
 have hlt1 := XE 8 s1
 rw [show s1.2.2 = (ZN 8 s1).2.2.2 from rfl]
 generalize ZN 8 s1 = p1 at *
 obtain ⟨x2, s2⟩ := p1
 dsimp only at k1 hlt1 ⊢
 unfold ckTl
 have k2 := fun ρ a n c (h : RdAt ρ a n c ra rn rc Rs s2) => n64_spec ρ br h
 have hlt2 := XE 8 s2
 rw [show s2.2.2 = (ZN 8 s2).2.2.2 from rfl]
 generalize ZN 8 s2 = p2 at *
 obtain ⟨x3, s3⟩ := p2
 dsimp only at k2 hlt2 ⊢
 unfold ckTu
 have k3 := fun ρ a n c (h : RdAt ρ a n c ra rn rc Rs s3) => n64_spec ρ br h
 have hlt3 := XE 8 s3
 rw [show s3.2.2 = (ZN 8 s3).2.2.2 from rfl]
 generalize ZN 8 s3 = p3 at *
 obtain ⟨x4, s4⟩ := p3
 dsimp only at k3 hlt3 ⊢
 unfold ckTe
 have k4 := fun ρ a n c (h : RdAt ρ a n c ra rn rc Rs s4) => n8_spec ρ br h
 have hlt4 := XE 1 s4
 rw [show s4.2.2 = (ZN 1 s4).2.2.2 from rfl]
 generalize ZN 1 s4 = p4 at *
 obtain ⟨x5, s5⟩ := p4
 dsimp only at k4 hlt4 ⊢
 refine Zf Tryz.func171 rfl rfl rfl fun u R => ?_
 simp only [Zx, List.cons_append, List.nil_append]
 repeat' (first | (refine Zc (.func 82) ?_; refine qC rfl rfl (h8) ?_; rintro v ρ' L' hle ⟨rfl, rfl, a1, n1, c1, h1, rfl⟩ <;> (try simp only [kM, kN, kO])) | (refine ZG ?_; refine Zn (Ze rfl) rfl rfl ?_) | (refine Zj ?_; first | (refine Zg ?_; refine qQ ?_) | refine Zl ?_) | refine Za ?_ | (refine Zi ?_; refine Zq ?_) | (refine Zh ?_; refine Zp ?_) | intro _)
 refine ZI (Zv _ _ ([[(_, .cells ⟨[.pointer (some ⟨tb, 0, none⟩)]⟩ 134 (0, 0))], [(tb, _)]])) (ZU (hT := tk) (Hp.le_refl _)) ?_
 all_goals (refine Yr 0 ?_; refine rNc 1 ?_; refine rFa 2 ?_; refine Yr 3 ?_; refine Yr 5 ?_; refine rNc 6 ?_; refine rFa 7 ?_; refine Yr 8 ?_; refine Yr 10 ?_; refine rNc 11 ?_; refine rFa 12 ?_; refine Yr 13 ?_)
 all_goals (refine Zt (i := 4) ?_; ((try refine Zr ?_); (first | (refine Zc (.func 81) ?_; refine qC rfl rfl (k1 _ _ _ _ h1) ?_; rintro v ρ' L' hle ⟨rfl, rfl, a2, n2, c2, g2, rfl⟩ <;> (try simp only [kM, kN, kO])) | (refine Zc (.func 81) ?_; refine qC rfl rfl (k2 _ _ _ _ g2) ?_; rintro v ρ' L' hle ⟨rfl, rfl, a3, n3, c3, g3, rfl⟩ <;> (try simp only [kM, kN, kO])) | (refine Zc (.func 81) ?_; refine qC rfl rfl (k3 _ _ _ _ g3) ?_; rintro v ρ' L' hle ⟨rfl, rfl, a4, n4, c4, g4, rfl⟩ <;> (try simp only [kM, kN, kO])) | (refine Zl ?_; try intro _)) <;> ((try simp only [kM, kN, kO]); refine Za ?_; refine Zs ?_)))
 all_goals refine rFa 15 ?_
 all_goals (refine Zt (i := 9) ?_; ((try refine Zr ?_); (first | (refine Zc (.func 81) ?_; refine qC rfl rfl (k1 _ _ _ _ h1) ?_; rintro v ρ' L' hle ⟨rfl, rfl, a2, n2, c2, g2, rfl⟩ <;> (try simp only [kM, kN, kO])) | (refine Zc (.func 81) ?_; refine qC rfl rfl (k2 _ _ _ _ g2) ?_; rintro v ρ' L' hle ⟨rfl, rfl, a3, n3, c3, g3, rfl⟩ <;> (try simp only [kM, kN, kO])) | (refine Zc (.func 81) ?_; refine qC rfl rfl (k3 _ _ _ _ g3) ?_; rintro v ρ' L' hle ⟨rfl, rfl, a4, n4, c4, g4, rfl⟩ <;> (try simp only [kM, kN, kO])) | (refine Zl ?_; try intro _)) <;> ((try simp only [kM, kN, kO]); refine Za ?_; refine Zs ?_)))
 all_goals (refine Zt (i := 14) ?_; ((try refine Zr ?_); (first | (refine Zc (.func 81) ?_; refine qC rfl rfl (k1 _ _ _ _ h1) ?_; rintro v ρ' L' hle ⟨rfl, rfl, a2, n2, c2, g2, rfl⟩ <;> (try simp only [kM, kN, kO])) | (refine Zc (.func 81) ?_; refine qC rfl rfl (k2 _ _ _ _ g2) ?_; rintro v ρ' L' hle ⟨rfl, rfl, a3, n3, c3, g3, rfl⟩ <;> (try simp only [kM, kN, kO])) | (refine Zc (.func 81) ?_; refine qC rfl rfl (k3 _ _ _ _ g3) ?_; rintro v ρ' L' hle ⟨rfl, rfl, a4, n4, c4, g4, rfl⟩ <;> (try simp only [kM, kN, kO])) | (refine Zl ?_; try intro _)) <;> ((try simp only [kM, kN, kO]); refine Za ?_; refine Zs ?_)))
 all_goals (refine Zt (i := 16) ?_; ((try refine Zr ?_); (first | (refine Zl ?_; try intro _)) <;> ((try simp only [kM, kN, kO]); refine Za ?_; refine Zs ?_)))
 all_goals refine rFa 17 ?_
 all_goals (refine Zt (i := 18) ?_; ((try refine Zr ?_); (first | (refine Zl ?_; try intro _)) <;> ((try simp only [kM, kN, kO]); refine Za ?_; refine Zs ?_)))
 all_goals refine rFa 19 ?_
 all_goals (refine Zt (i := 20) ?_; ((try refine Zr ?_); (first | (refine Zl ?_; try intro _)) <;> ((try simp only [kM, kN, kO]); refine Za ?_; refine Zs ?_)))
 all_goals refine ZP ?_
 all_goals (repeat' (first | (refine Zc (.func 80) ?_; refine qC rfl rfl (k4 _ _ _ _ g4) ?_; rintro v ρ' L' hle ⟨rfl, rfl, a5, n5, c5, g5, rfl⟩ <;> (try simp only [kM, kN, kO])) | (refine ZG ?_; refine Zn (Ze rfl) rfl rfl ?_) | (refine Zj ?_; first | (refine Zg ?_; refine qQ ?_) | refine Zl ?_) | refine Za ?_ | (refine Zi ?_; refine Zq ?_) | (refine Zh ?_; refine Zp ?_) | intro _))
 all_goals exact qE ⟨Hp.le_refl _, rfl, trivial, a5, n5, c5, g5, rfl⟩
end Go.Proofs.E
