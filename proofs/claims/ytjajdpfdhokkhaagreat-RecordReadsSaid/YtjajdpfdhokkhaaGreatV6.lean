/- The law RecordReads. Part 6 of 21. -/
import Derived.Test.YtjajdpfdhokkhaaGreatV5
namespace Go.Proofs.E
open Go
set_option linter.unusedVariables false
set_option linter.unusedSimpArgs false
set_option linter.unusedSectionVars false
set_option maxRecDepth 4000
set_option maxHeartbeats 1000000
attribute [local irreducible] Yl TL TC TE Spec XW R1 Hp.le EnvLe TS TR YS Zv
theorem WA (k : Nat) (l : List UInt8) (st : Int) : (Yk k l st).2.1.length ≤ l.length := by
 unfold Yk; split
 ·exact Nat.le_refl _
 ·split
  ·exact Nat.le_refl _
  ·simp
theorem rawR_len (k : Nat) (l : List UInt8) (st : Int) : (Wo k l st).2.1.length ≤ l.length := by
 unfold Wo; split
 ·exact Nat.le_refl _
 ·split
  ·exact Nat.le_refl _
  ·simp
theorem rowR_len (l : List UInt8) (st : Int) (bad : Bool) : (XL l st bad).2.1.length ≤ l.length := by
 unfold XL
 dsimp only
 have e1 := WA 1 l st
 generalize Yk 1 l st = r1 at *
 have e2 := WA 2 r1.2.1 r1.2.2
 generalize Yk 2 r1.2.1 r1.2.2 = r2 at *
 have e3 := WA 8 r2.2.1 r2.2.2
 generalize Yk 8 r2.2.1 r2.2.2 = r3 at *
 have e4 := WA 1 r3.2.1 r3.2.2
 generalize Yk 1 r3.2.1 r3.2.2 = r4 at *
 have e5 := rawR_len r4.1 r4.2.1 r4.2.2
 split
 ·split <;> dsimp only <;> omega
 ·dsimp only; omega
theorem kidR_len (l : List UInt8) (st : Int) : (kidR l st).2.1.length ≤ l.length := by
 unfold kidR
 dsimp only
 have e1 := WA 1 l st
 generalize Yk 1 l st = r1 at *
 have e2 := WA 2 r1.2.1 r1.2.2
 generalize Yk 2 r1.2.1 r1.2.2 = r2 at *
 have e3 := WA 1 r2.2.1 r2.2.2
 omega
theorem manyTo_len {α : Type} {f : List UInt8 → Int → Bool → α × Yo} (hf : ∀ l st bad, (f l st bad).2.1.length ≤ l.length) : ∀ (n : Nat) (l : List UInt8) (st : Int) (bad : Bool), (Xp f n l st bad).2.1.length ≤ l.length
 | 0, l, st, bad => Nat.le_refl _
 | n + 1, l, st, bad => by
  rw [Xp]
  split
  ·exact Nat.le_trans (manyTo_len hf n _ _ _) (hf l st bad)
  ·exact Nat.le_refl _
theorem manyR_len {α : Type} {f : List UInt8 → Int → Bool → α × Yo} (hf : ∀ l st bad, (f l st bad).2.1.length ≤ l.length) (l : List UInt8) (st : Int) (bad : Bool) : (YW f l st bad).2.1.length ≤ l.length :=
 Nat.le_trans (manyTo_len hf _ _ _ _) (WA 1 l st)
theorem contentR_len (l : List UInt8) : (YK l).2.1.length ≤ l.length := by
 unfold YK contE
 dsimp only
 have e1 := WA 1 l 0
 generalize Yk 1 l 0 = r1 at *
 have h2 : ∀ b, (WD r1.1 r1.2.1 r1.2.2 b).2.1.length ≤ r1.2.1.length := fun b => by
  unfold WD
  have a1 := manyR_len (f := XL) rowR_len r1.2.1 r1.2.2 b
  have a2 := manyR_len (f := Xy) (fun l st bad => kidR_len l st) r1.2.1 r1.2.2 b
  split
  ·split
   ·exact a1
   ·split
    ·exact a2
    ·exact Nat.le_refl _
  ·exact Nat.le_refl _
 exact Nat.le_trans (h2 _) e1
def Ym (l : List UInt8) : Row × Int × Int :=
 let r := XL l 0 false
 (if r.2.2.2 || decide (r.2.2.1 ≠ 0) then ⟨0, 0, 0, []⟩ else r.1, Ww l.length r.2.1.length r.2.2.2 r.2.2.1, XD r.2.2.2 r.2.2.1)
def ZA (l : List UInt8) : XQ × Int × Int :=
 let r := YK l
 (if r.2.2.2 || decide (r.2.2.1 ≠ 0) then ⟨0, [], []⟩ else r.1, Ww l.length r.2.1.length r.2.2.2 r.2.2.1, XD r.2.2.2 r.2.2.1)
theorem takeRow_spec (ρ : Hp) (a : Option Addr) (n c : Nat) (l : List UInt8) (h : SIn ρ ZM a n l) (hn : n ≤ 1000000) :
  Spec Tryz.prog 168 [.slice a n c] ρ [] (fun v ρ' L' => v = .tuple ⟨[.agg ⟨YY (Ym l).1⟩, .int .i64 (Ym l).2.1, .int .i64 (Ym l).2.2]⟩ ∧ ρ.le ρ' ∧ L' = []) := by
 have hf := from_spec ρ a n c l h hn
 have hl := h.len
 have hlen := rowR_len l 0 false
 unfold Ym
 dsimp only
 rw [hl] at hlen ⊢
 refine Zf Tryz.func168 rfl rfl rfl fun u R => ?_
 simp only [Zx, List.cons_append, List.nil_append]
 repeat' (first | (refine Zc (.func 237) ?_; refine qC rfl rfl (hf) ?_; rintro v ρ' L' hle ⟨hle1, bt, br, a1, c1, rfl, hc1, h1, rfl⟩ <;> (try simp only [kM, kN, kO])) | (refine Zj ?_; first | (refine Zg ?_; refine qQ ?_) | refine Zl ?_) | refine Za ?_ | (refine Zi ?_; refine Zq ?_) | (refine Zh ?_; refine Zp ?_) | intro _)
 have hr := trow_spec _ bt br n false (.int .i64 0) (.slice none 0 0) (.slice none 0 0) a1 n c1 l h1 hc1 0
 generalize XL l 0 false = r at *
 obtain ⟨x, l2, st2, b2⟩ := r
 dsimp only at hr hlen ⊢
 repeat' (first | (refine Zc (.func 241) ?_; refine qC rfl rfl (hr) ?_; rintro v ρ' L' hle ⟨rfl, hle2, a2, n2, c2, h2, hc2, rfl⟩ <;> (try simp only [kM, kN, kO])) | (refine Zj ?_; first | (refine Zg ?_; refine qQ ?_) | refine Zl ?_) | refine Za ?_ | (refine Zi ?_; refine Zq ?_) | (refine Zh ?_; refine Zp ?_) | intro _)
 have hl2 := h2.len
 rw [hl2]
 repeat' (first | (refine Zc (.func 240) ?_; refine qC rfl rfl (takenRow_spec _ bt br n hn b2 _ _ _ a2 n2 c2 st2 x (by omega)) ?_; rintro v ρ' L' hle ⟨rfl, rfl, rfl⟩ <;> (try simp only [kM, kN, kO])) | (refine Zj ?_; first | (refine Zg ?_; refine qQ ?_) | refine Zl ?_) | refine Za ?_ | (refine Zi ?_; refine Zq ?_) | (refine Zh ?_; refine Zp ?_) | intro _)
 exact qE ⟨rfl, Hp.le_trans hle1 hle2, rfl⟩
theorem takeCont_spec (ρ : Hp) (a : Option Addr) (n c : Nat) (l : List UInt8) (h : SIn ρ ZM a n l) (hn : n ≤ 1000000) :
  Spec Tryz.prog 164 [.slice a n c] ρ [] (fun v ρ' L' => ρ.le ρ' ∧ ∃ w, v = .tuple ⟨[.agg ⟨XJ (ZA l).1.kind w⟩, .int .i64 (ZA l).2.1, .int .i64 (ZA l).2.2]⟩ ∧ CIn ρ' w (ZA l).1.rows (ZA l).1.kids ∧ L' = []) := by
 have hf := from_spec ρ a n c l h hn
 have hl := h.len
 have hlen := contentR_len l
 unfold ZA
 dsimp only
 rw [hl] at hlen ⊢
 refine Zf Tryz.func164 rfl rfl rfl fun u R => ?_
 simp only [Zx, List.cons_append, List.nil_append]
 repeat' (first | (refine Zc (.func 237) ?_; refine qC rfl rfl (hf) ?_; rintro v ρ' L' hle ⟨hle1, bt, br, a1, c1, rfl, hc1, h1, rfl⟩ <;> (try simp only [kM, kN, kO])) | (refine Zj ?_; first | (refine Zg ?_; refine qQ ?_) | refine Zl ?_) | refine Za ?_ | (refine Zi ?_; refine Zq ?_) | (refine Zh ?_; refine Zp ?_) | intro _)
 have hr := content_spec _ bt br n a1 n c1 l h1 hc1
 generalize YK l = r at *
 obtain ⟨x, l2, st2, b2⟩ := r
 dsimp only at hr hlen ⊢
 repeat' (first | (refine Zc (.func 239) ?_; refine qC rfl rfl (hr) ?_; rintro v ρ' L' hle ⟨hle2, w, a2, n2, c2, rfl, hC, h2, hc2, rfl⟩ <;> (try simp only [kM, kN, kO])) | (refine Zj ?_; first | (refine Zg ?_; refine qQ ?_) | refine Zl ?_) | refine Za ?_ | (refine Zi ?_; refine Zq ?_) | (refine Zh ?_; refine Zp ?_) | intro _)
 have hl2 := h2.len
 rw [hl2]
 have ht := fun ρ => takenCont_spec ρ bt br n hn b2 (.int .i64 x.kind) (.slice w.ra w.rn w.rc) (.slice w.ka w.kn w.kc) a2 n2 c2 st2 x.kind w (by omega)
 by_cases hb : (b2 || decide (st2 ≠ 0)) = true
 ·rw [if_pos hb] at ht
  rw [if_pos hb]
  repeat' (first | (refine Zc (.func 238) ?_; refine qC rfl rfl (ht _) ?_; rintro v ρ' L' hle ⟨rfl, rfl, rfl⟩ <;> (try simp only [kM, kN, kO])) | (refine Zj ?_; first | (refine Zg ?_; refine qQ ?_) | refine Zl ?_) | refine Za ?_ | (refine Zi ?_; refine Zq ?_) | (refine Zh ?_; refine Zp ?_) | intro _)
  exact qE ⟨Hp.le_trans hle1 hle2, ⟨none, 0, 0, none, 0, 0⟩, rfl, CIn.nil, rfl⟩
 ·rw [if_neg hb] at ht
  rw [if_neg hb]
  repeat' (first | (refine Zc (.func 238) ?_; refine qC rfl rfl (ht _) ?_; rintro v ρ' L' hle ⟨rfl, rfl, rfl⟩ <;> (try simp only [kM, kN, kO])) | (refine Zj ?_; first | (refine Zg ?_; refine qQ ?_) | refine Zl ?_) | refine Za ?_ | (refine Zi ?_; refine Zq ?_) | (refine Zh ?_; refine Zp ?_) | intro _)
  exact qE ⟨Hp.le_trans hle1 hle2, w, rfl, hC, rfl⟩
def tB (t : Int) : UInt8 := UInt8.ofNat t.toNat
def keyB (t : Int) (id : Nat) : List UInt8 := tB t :: be 2 id
def vN (v : Int) : Nat := (IntKind.u64.wrap v).toNat
theorem vN_eq (v : Int) : IntKind.u64.wrap v = (vN v : Nat) := by
 have : 0 ≤ IntKind.u64.wrap v := by simp only [IntKind.wrap, IntKind.bits, IntKind.signed, Bool.false_and, Bool.false_eq_true, if_false]; omega
 simp [vN]; omega
theorem vN_lt (v : Int) : vN v < 18446744073709551616 := by
 have : IntKind.u64.wrap v < 18446744073709551616 := by simp only [IntKind.wrap, IntKind.bits, IntKind.signed, Bool.false_and, Bool.false_eq_true, if_false]; omega
 have h := vN_eq v
 omega
def ZY (r : Row) : List UInt8 := keyB r.t r.id ++ (be 8 (vN r.val) ++ (UInt8.ofNat r.note.length :: r.note))
theorem tB_eq {t : Int} (h0 : 0 ≤ t) (h1 : t < 256) : Value.int .u8 t = ZM (tB t) := by
 obtain ⟨n, rfl⟩ : ∃ n : Nat, t = n := ⟨t.toNat, by omega⟩
 simp only [ZM, tB, Int.toNat_natCast, UInt8.toNat_ofNat']
 congr 1
 have e : (2 : Nat) ^ 8 = 256 := by decide
 rw [e]
 omega
theorem key_spec (ρ : Hp) (v : Value) (n : Nat) (l : List UInt8) (sp : List Value) (hown : OwnS v n (l.map ZM) sp 1) (hn : n ≤ 100000) (t : Int) (id : Nat) (h0 : 0 ≤ t) (h3 : t < 256) (hid : id < 65536) :
  Spec Tryz.prog 308 [v, .agg ⟨keyV t id⟩] ρ [Yu v (l.map ZM) sp 5] (fun r ρ' L' => ρ.le ρ' ∧ ∃ sp', OwnS r (n + 3) ((l ++ keyB t id).map ZM) sp' 1 ∧ L' = [Yu r ((l ++ keyB t id).map ZM) sp' 5]) := by
 have hl : l.length = n := by obtain ⟨_, _, _, h⟩ := hown.len; simpa using h
 refine Zf Tryz.func308 rfl rfl rfl fun u R => ?_
 simp only [Zx, List.cons_append, List.nil_append]
 repeat' (first | (refine Zj ?_; first | (refine Zg ?_; refine qQ ?_) | refine Zl ?_) | refine Za ?_ | (refine Zi ?_; refine Zq ?_) | (refine Zh ?_; refine Zp ?_) | intro _)
 rename_i b3
 refine ZI (Zv _ _ ([[(b3, .cells ⟨keyV t id⟩ 99 (0, 0))]])) (ZU (hT := tk) (Hp.le_refl _)) ?_
 all_goals (refine Ye 0 ?_; refine rFa 1 ?_; refine Yr 2 ?_; refine rCv 3 ?_; refine rFa 6 ?_; refine Yr 7 ?_)
 all_goals (refine Zt (i := 4) ?_; ((try refine Zr ?_); (first | (refine ZJ rfl rfl rfl rfl (by simp) rfl rfl (fun _ => ?_); simp only [tB_eq h0 h3]) | (refine Zl ?_; try intro _)) <;> ((try simp only [kM, kN, kO]); refine Za ?_; refine Zs ?_)))
 all_goals (refine Zt (i := 5) ?_; ((try refine Zr ?_); (first | (refine Yt (ys := [ZM (tB t)]) (m := 1) rfl rfl hown (hR := by infer_instance) SrcV.lit rfl rfl (by decide) rfl (by omega) (by omega) rfl (fun v' sp' hown' => ?_); rw [show l.map ZM ++ [ZM (tB t)] = (l ++ [tB t]).map ZM by simp] at hown' ⊢; refine Yn _ (h := Rem.here) (fun ρ2 hle2 hfz => ?_); obtain ⟨a', c', rfl, hc', hs⟩ := hown'.sIn hfz) | (refine Zl ?_; try intro _)) <;> ((try simp only [kM, kN, kO]); refine Za ?_; refine Zs ?_)))
 all_goals (refine Zt (i := 8) ?_; ((try refine Zr ?_); (first | (refine Zc (.func 258) ?_; refine qC rfl rfl (put16_spec _ a' _ c' _ hs id hid (by omega)) ?_; rintro v ρ' L' hle ⟨rfl, sp2, hown2, rfl⟩ <;> (try simp only [kM, kN, kO])) | (refine Zl ?_; try intro _)) <;> ((try simp only [kM, kN, kO]); refine Za ?_; refine Zs ?_)))
 all_goals (refine Yi ?_; refine rAs 9 ?_; refine ZP ?_)
 have e : l ++ [tB t] ++ be 2 id = l ++ keyB t id := by rw [List.append_assoc]; rfl
 rw [e] at hown2 ⊢
 repeat' (first | (refine Zj ?_; first | (refine Zg ?_; refine qQ ?_) | refine Zl ?_) | refine Za ?_ | (refine Zi ?_; refine Zq ?_) | (refine Zh ?_; refine Zp ?_) | intro _)
 exact qE ⟨hle2, sp2, hown2, rfl⟩
theorem rowOk_iff {r : Row} (h : Yy r = true) : 0 ≤ r.t ∧ r.t < 3 ∧ r.note.length ≤ 8 := by
 have := of_decide_eq_true h
 exact ⟨this.1.1, this.1.2, this.2⟩
theorem lenB {n : Nat} (h : n ≤ 200) : Value.int .u8 (n : Int) = ZM (UInt8.ofNat n) := by
 simp only [ZM, UInt8.toNat_ofNat']
 congr 1
 have e : (2 : Nat) ^ 8 = 256 := by decide
 rw [e]
 omega
theorem claid_spec (ρ : Hp) (v : Value) (n : Nat) (l : List UInt8) (sp : List Value) (hown : OwnS v n (l.map ZM) sp 1) (hn : n ≤ 1000) (r : Row) (hr : Yy r = true) (hid : r.id < 65536) :
  Spec Tryz.prog 286 [v, .agg ⟨YY r⟩] ρ [Yu v (l.map ZM) sp 5] (fun q ρ' L' => ρ.le ρ' ∧ ∃ sp', OwnS q (n + (ZY r).length) ((l ++ ZY r).map ZM) sp' 1 ∧ L' = [Yu q ((l ++ ZY r).map ZM) sp' 5]) := by
 obtain ⟨h0, h3, h8⟩ := rowOk_iff hr
 have hl : l.length = n := by obtain ⟨_, _, _, h⟩ := hown.len; simpa using h
 have hvl := vN_lt r.val
 have hkb : (keyB r.t r.id).length = 3 := by simp [keyB, ZF]
 have hlb := lenB (n := r.note.length) (by omega)
 refine Zf Tryz.func286 rfl rfl rfl fun u R => ?_
 simp only [Zx, List.cons_append, List.nil_append]
 repeat' (first | (refine Zj ?_; first | (refine Zg ?_; refine qQ ?_) | refine Zl ?_) | refine Za ?_ | (refine Zi ?_; refine Zq ?_) | (refine Zh ?_; refine Zp ?_) | intro _)
 rename_i b3
 refine ZI (Zv _ _ ([[(b3, .cells ⟨YY r⟩ 101 (0, 0))]])) (ZU (hT := tk) (Hp.le_refl _)) ?_
 all_goals (refine Ye 0 ?_; refine rFa 1 ?_; refine Yr 2 ?_; refine rFa 4 ?_; refine Yr 5 ?_; refine rCv 6 ?_)
 all_goals (refine Zt (i := 3) ?_; ((try refine Zr ?_); (first | (simp only [vN_eq]; refine Zc (.func 308) ?_; refine qC rfl rfl (key_spec _ v n l sp hown (by omega) r.t r.id h0 (by omega) hid) ?_; rintro v1 ρ1 L1 hle0 ⟨hle1, sp1, hown1, rfl⟩; simp only [List.cons_append, List.nil_append]; refine Yn _ (h := Rem.here) (fun ρ2 hle2 hfz => ?_); obtain ⟨a1, c1, rfl, hc1, hs1⟩ := hown1.sIn hfz) | (refine Zl ?_; try intro _)) <;> ((try simp only [kM, kN, kO]); refine Za ?_; refine Zs ?_)))
 all_goals (refine Zt (i := 7) ?_; ((try refine Zr ?_); (first | (refine Zc (.func 254) ?_; refine qC rfl rfl (put64_spec _ a1 _ c1 _ hs1 (vN r.val) hvl (by omega)) ?_; rintro v ρ' L' hle ⟨rfl, sp3, hown3, rfl⟩ <;> (try simp only [kM, kN, kO])) | (refine Zl ?_; try intro _)) <;> ((try simp only [kM, kN, kO]); refine Za ?_; refine Zs ?_)))
 all_goals (refine Yi ?_; refine rAs 8 ?_; refine ZP ?_)
 repeat' (first | (refine Zj ?_; first | (refine Zg ?_; refine qQ ?_) | refine Zl ?_) | refine Za ?_ | (refine Zi ?_; refine Zq ?_) | (refine Zh ?_; refine Zp ?_) | intro _)
 refine ZI (Zv _ _ ([[(b3, .cells ⟨YY r⟩ 101 (0, 0))]])) (ZU (hT := tk) (Hp.le_refl _)) ?_
 all_goals (refine Ye 0 ?_; refine rFa 1 ?_; refine Yr 2 ?_; refine rBi 3 ?_; refine rCv 4 ?_; refine rFa 7 ?_; refine Yr 8 ?_)
 all_goals (refine Zt (i := 5) ?_; ((try refine Zr ?_); (first | (refine ZJ rfl rfl rfl rfl (by simp) rfl rfl (fun _ => ?_); simp only [hlb]) | (refine Zl ?_; try intro _)) <;> ((try simp only [kM, kN, kO]); refine Za ?_; refine Zs ?_)))
 all_goals (refine Zt (i := 6) ?_; ((try refine Zr ?_); (first | (refine Yt (ys := [ZM (UInt8.ofNat r.note.length)]) (m := 1) rfl rfl hown3 (hR := by infer_instance) SrcV.lit rfl rfl (by decide) rfl (by omega) (by omega) rfl (fun v4 sp4 hown4 => ?_)) | (refine tl_app_str (l := r.note) rfl rfl hown4 (hR := by infer_instance) (by omega) rfl (fun v5 sp5 hown5 => ?_)) | (refine Zl ?_; try intro _)) <;> ((try simp only [kM, kN, kO]); refine Za ?_; refine Zs ?_)))
 all_goals (refine Zt (i := 9) ?_; ((try refine Zr ?_); (first | (refine Yt (ys := [ZM (UInt8.ofNat r.note.length)]) (m := 1) rfl rfl hown3 (hR := by infer_instance) SrcV.lit rfl rfl (by decide) rfl (by omega) (by omega) rfl (fun v4 sp4 hown4 => ?_)) | (refine tl_app_str (l := r.note) rfl rfl hown4 (hR := by infer_instance) (by omega) rfl (fun v5 sp5 hown5 => ?_)) | (refine Zl ?_; try intro _)) <;> ((try simp only [kM, kN, kO]); refine Za ?_; refine Zs ?_)))
 all_goals (refine Yi ?_; refine rAs 10 ?_; refine ZP ?_)
 have e : (l ++ keyB r.t r.id ++ be 8 (vN r.val)).map ZM ++ [ZM (UInt8.ofNat r.note.length)] ++ r.note.map ZM = (l ++ ZY r).map ZM := by simp [ZY]
 have e2 : n + 3 + 8 + 1 + r.note.length = n + (ZY r).length := by simp [ZY, hkb, ZF]; omega
 rw [e] at hown5 ⊢
 rw [e2] at hown5
 repeat' (first | (refine Zj ?_; first | (refine Zg ?_; refine qQ ?_) | refine Zl ?_) | refine Za ?_ | (refine Zi ?_; refine Zq ?_) | (refine Zh ?_; refine Zp ?_) | intro _)
 exact qE ⟨Hp.le_trans hle1 hle2, sp5, hown5, rfl⟩
theorem rowE_spec (ρ : Hp) (r : Row) (hid : r.id < 65536) :
  Spec Tryz.prog 257 [.agg ⟨YY r⟩] ρ [] (fun v ρ' L' => ρ.le ρ' ∧ ∃ a n c, v = .tuple ⟨[.slice a n c, .int .i64 (if Yy r then 0 else 151)]⟩ ∧ n ≤ c ∧ SIn ρ' ZM a n (if Yy r then ZY r else []) ∧ L' = []) := by
 have hck := fun ρ => checkRow_spec ρ r
 refine Zf Tryz.func257 rfl rfl rfl fun u R => ?_
 simp only [Zx, List.cons_append, List.nil_append]
 cases hok : Yy r
 ·simp only [hok, Bool.false_eq_true, if_false] at hck ⊢
  repeat' (first | (refine Zc (.func 253) ?_; refine qC rfl rfl (hck _) ?_; rintro v ρ' L' hle ⟨rfl, rfl, rfl⟩ <;> (try simp only [kM, kN, kO])) | (refine Zj ?_; first | (refine Zg ?_; refine qQ ?_) | refine Zl ?_) | refine Za ?_ | (refine Zi ?_; refine Zq ?_) | (refine Zh ?_; refine Zp ?_) | intro _)
  exact qE ⟨Hp.le_refl _, none, 0, 0, rfl, Nat.le_refl _, SIn.nil, rfl⟩
 ·simp only [hok, if_true] at hck ⊢
  repeat' (first | (refine Zc (.func 253) ?_; refine qC rfl rfl (hck _) ?_; rintro v ρ' L' hle ⟨rfl, rfl, rfl⟩ <;> (try simp only [kM, kN, kO])) | (refine Zc (.func 286) ?_; refine tl_call rfl rfl (claid_spec _ (.slice none 0 0) 0 [] [] (OwnS.nil 1) (by omega) r hok hid) (take_cons' rem_nil' take_nil') rfl ?_; rintro v1 ρ1 L1 hle0 ⟨hle1, sp1, hown1, rfl⟩; simp only [List.cons_append, List.nil_append, Nat.zero_add] at hown1 ⊢; refine Yn _ (h := Rem.here) (fun ρ2 hle2 hfz => ?_); obtain ⟨a1, c1, rfl, hc1, hs1⟩ := hown1.sIn hfz) | (refine Zj ?_; first | (refine Zg ?_; refine qQ ?_) | refine Zl ?_) | refine Za ?_ | (refine Zi ?_; refine Zq ?_) | (refine Zh ?_; refine Zp ?_) | intro _)
  exact qE ⟨Hp.le_trans hle1 hle2, a1, _, c1, rfl, hc1, hs1, rfl⟩
def YE (k : Kid) : List UInt8 := keyB k.t k.id ++ [tB k.page]
def cntB (c : XQ) : List UInt8 := if c.kind = 0 then [] else [UInt8.ofNat (c.rows.length + c.kids.length)]
def Ys (c : XQ) : List UInt8 := tB c.kind :: cntB c ++ (c.rows.flatMap ZY ++ c.kids.flatMap YE)
theorem Wt {α : Type} {most : Nat} {right : Nat → α → Bool} {lt : α → α → Bool} {l : List α} : ∀ {k : Nat}, ZH most right lt l k = true → k ≤ l.length → l.length ≤ most ∧ ∀ i (h : i < l.length), i < k → right i l[i] = true ∧ (i = 0 ∨ lt (l[i - 1]'(by omega)) l[i] = true)
 | 0, h, _ => ⟨of_decide_eq_true h, fun i _ hi => by omega⟩
 | k + 1, h, hk => by
  rw [YZ (show k < l.length by omega), Bool.and_eq_true, Bool.and_eq_true] at h
  obtain ⟨h1, h2, h3⟩ := h
  obtain ⟨g1, g2⟩ := Wt h1 (by omega)
  refine ⟨g1, fun i hi hik => ?_⟩
  by_cases e : i < k
  ·exact g2 i hi e
  ·have : i = k := by omega
   subst this
   refine ⟨h2, ?_⟩
   simpa using h3
structure ContOk (c : XQ) : Prop where
 kind : c.kind = 0 ∧ c.rows = [] ∧ c.kids = [] ∨ c.kind = 1 ∧ c.kids = [] ∨ c.kind = 2 ∧ c.rows = [] ∧ 1 < c.kids.length
 rl : c.rows.length ≤ 4
 kl : c.kids.length ≤ 4
 row : ∀ r ∈ c.rows, Yy r = true
 kid : ∀ k ∈ c.kids, (0 ≤ k.t ∧ k.t < 3) ∧ 0 < k.page ∧ k.page < 64
theorem We {c : XQ} (h : ZQ c = true) : ContOk c := by
 obtain ⟨kind, rows, kids⟩ := c
 unfold ZQ at h
 dsimp only at h
 split at h
 ·rename_i hk
  have hz := of_decide_eq_true h
  have h1 : rows = [] := List.eq_nil_of_length_eq_zero (by omega)
  have h2 : kids = [] := List.eq_nil_of_length_eq_zero (by omega)
  subst h1; subst h2
  exact ⟨.inl ⟨hk, rfl, rfl⟩, by simp, by simp, by simp, by simp⟩
 ·split at h
  ·rename_i hk
   rw [Bool.and_eq_true] at h
   have h2 : kids = [] := List.eq_nil_of_length_eq_zero (of_decide_eq_true h.1)
   subst h2
   obtain ⟨g1, g2⟩ := Wt h.2 (Nat.le_refl _)
   refine ⟨.inr (.inl ⟨hk, rfl⟩), g1, by simp, fun r hr => ?_, by simp⟩
   obtain ⟨i, hi, rfl⟩ := List.mem_iff_getElem.1 hr
   exact (g2 i hi hi).1
  ·split at h
   ·rename_i hk
    rw [Bool.and_eq_true, Bool.and_eq_true] at h
    have h1 : rows = [] := List.eq_nil_of_length_eq_zero (of_decide_eq_true h.1)
    subst h1
    obtain ⟨g1, g2⟩ := Wt h.2.2 (Nat.le_refl _)
    refine ⟨.inr (.inr ⟨hk, rfl, of_decide_eq_true h.2.1⟩), by simp, g1, by simp, fun k hk => ?_⟩
    obtain ⟨i, hi, rfl⟩ := List.mem_iff_getElem.1 hk
    have := of_decide_eq_true (g2 i hi hi).1
    exact ⟨this.2.2.2.1, this.2.1, this.2.2.1⟩
   ·cases h
theorem rowB_len {r : Row} (h : Yy r = true) : (ZY r).length = 12 + r.note.length := by simp [ZY, keyB, ZF]; omega
theorem rowB_le {r : Row} (h : Yy r = true) : (ZY r).length ≤ 20 := by rw [rowB_len h]; have := (rowOk_iff h).2.2; omega
theorem kidB_len (k : Kid) : (YE k).length = 4 := by simp [YE, keyB, ZF]
theorem YH {α : Type} (f : α → List UInt8) (m : Nat) : ∀ (l : List α), (∀ x ∈ l, (f x).length ≤ m) → (l.flatMap f).length ≤ l.length * m
 | [], _ => by simp
 | x :: r, h => by
  have h1 := h x (by simp)
  have ih := YH f m r (fun y hy => h y (by simp [hy]))
  simp only [List.flatMap_cons, List.length_append, List.length_cons, Nat.add_mul]; omega
theorem Xt {α : Type} (f : α → List UInt8) (l : List α) (k : Nat) (h : k < l.length) : (l.take (k + 1)).flatMap f = (l.take k).flatMap f ++ f l[k] := by
 rw [List.take_succ_eq_append_getElem h, List.flatMap_append]; simp
theorem contE_spec (ρ : Hp) (w : CV) (c : XQ) (h : CIn ρ w c.rows c.kids) (hir : ∀ r ∈ c.rows, r.id < 65536) (hik : ∀ k ∈ c.kids, k.id < 65536) :
  Spec Tryz.prog 285 [.agg ⟨XJ c.kind w⟩] ρ [] (fun v ρ' L' => ρ.le ρ' ∧ ∃ a n c', v = .tuple ⟨[.slice a n c', .int .i64 (if ZQ c then 0 else 160)]⟩ ∧ n ≤ c' ∧ SIn ρ' ZM a n (if ZQ c then Ys c else []) ∧ L' = []) := by
 have hck := fun ρ h => XG ρ w c h
 refine Zf Tryz.func285 rfl rfl rfl fun u R => ?_
 simp only [Zx, List.cons_append, List.nil_append]
 cases hok : ZQ c
 ·simp only [hok, Bool.false_eq_true, if_false] at hck ⊢
  repeat' (first | (refine Zc (.func 251) ?_; refine qC rfl rfl (hck _ h) ?_; rintro v ρ' L' hle ⟨rfl, rfl, rfl⟩ <;> (try simp only [kM, kN, kO])) | (refine Zj ?_; first | (refine Zg ?_; refine qQ ?_) | refine Zl ?_) | refine Za ?_ | (refine Zi ?_; refine Zq ?_) | (refine Zh ?_; refine Zp ?_) | intro _)
  exact qE ⟨Hp.le_refl _, none, 0, 0, rfl, Nat.le_refl _, SIn.nil, rfl⟩
 ·simp only [hok, if_true] at hck ⊢
  obtain ⟨hkind, hrl, hkl, hrow, hkid⟩ := We hok
  have hk03 : 0 ≤ c.kind ∧ c.kind < 3 := by omega
  obtain ⟨kind, rows, kids⟩ := c
  obtain ⟨ra, rn, rc, ka, kn, kc⟩ := w
  obtain ⟨hr, hk, hrb, hkb, hrc, hkc⟩ := h
  dsimp only at hrc hkc hr hk hrb hkb hrow hkid hrl hkl hk03 hir hik ⊢
  have hrn := hr.len
  have hkn := hk.len
  have hcnt := lenB (n := rn + kn) (by omega)
  have hkB := tB_eq (t := kind) (by omega) (by omega)
  dsimp only [XJ] at hck ⊢
  by_cases hk0 : kind = 0
  ·obtain ⟨B0, hB0⟩ : ∃ B0, tB kind :: cntB ⟨kind, rows, kids⟩ = B0 := ⟨_, rfl⟩
   have hX : B0 = [tB kind] := by rw [← hB0]; simp [cntB, hk0]
   have hBl : B0.length ≤ 2 := by rw [hX]; simp
   repeat' (first | (refine Zc (.func 251) ?_; refine qC rfl rfl (hck _ ⟨hr, hk, hrb, hkb, hrc, hkc⟩) ?_; rintro v ρ' L' hle ⟨rfl, rfl, rfl⟩ <;> (try simp only [kM, kN, kO])) | (refine ZJ rfl rfl rfl rfl (by simp) rfl rfl (fun _ => ?_); simp only [hkB]) | (refine Zj ?_; first | (refine Zg ?_; refine qQ ?_) | refine Zl ?_) | refine Za ?_ | (refine Zi ?_; refine Zq ?_) | (refine Zh ?_; refine Zp ?_) | intro _)
   rename_i b1 b2
   rw [show [ZM (tB kind)] = B0.map ZM by rw [hX]; rfl, own_chunk b2 1 1]
   have hown0 : OwnS (.slice (some ⟨b2, 0, none⟩) 1 1) B0.length (B0.map ZM) [] 1 := ⟨.inr ⟨b2, 1, by rw [hX]; rfl, by simp, by simp [hX], by simp [hX]⟩⟩
   generalize Value.slice (some ⟨b2, 0, none⟩) 1 1 = v0 at *
   rw [show B0.map ZM = (B0 ++ (rows.take 0).flatMap ZY).map ZM by simp]
   refine Zy [(1, _), (2, _), (3, _), (34, _), (35, _)] (fun (ζ : (Nat) × (Hp) × (Value) × (List Value)) => [(36, .int .i64 ζ.1), (5, ζ.2.2.1)]) (fun (ζ : (Nat) × (Hp) × (Value) × (List Value)) => ζ.2.1) (fun (ζ : (Nat) × (Hp) × (Value) × (List Value)) => [Yu ζ.2.2.1 ((B0 ++ (rows.take ζ.1).flatMap ZY).map ZM) ζ.2.2.2 5, [(b1, .cells ⟨[.int .i64 kind, .slice ra rn rc, .slice ka kn kc]⟩ 110 (0, 0))]]) (fun (ζ : (Nat) × (Hp) × (Value) × (List Value)) => ζ.1 ≤ rn ∧ ρ'.le ζ.2.1 ∧ OwnS ζ.2.2.1 (B0 ++ (rows.take ζ.1).flatMap ZY).length ((B0 ++ (rows.take ζ.1).flatMap ZY).map ZM) ζ.2.2.2 1) (fun (ζ : (Nat) × (Hp) × (Value) × (List Value)) => rn - ζ.1) ((0, ρ', v0, [])) (⟨Nat.zero_le _, Hp.le_refl _, by simpa using hown0⟩) Zk Zk rfl tk ?_
   rintro ⟨k, ρ1, v, sp⟩ hI
   try simp only [List.cons_append, List.nil_append, List.append_assoc, List.append_eq] at hI ⊢
   try dsimp only at hI ⊢
   obtain ⟨hkn0, hle1, hown⟩ := hI
   by_cases hlt : k < rn
   ·obtain ⟨b, off, C, T, fr, rfl, hb, hfit, hc⟩ := (hr.mono hle1).get (show k < rows.length by omega)
    have hmem : rows[k]'(by omega) ∈ rows := List.getElem_mem _
    have hro := hrow _ hmem
    have hid := hir _ hmem
    have hts := Xt ZY rows k (by omega)
    have hfl := YH ZY 20 (rows.take k) (fun x hx => rowB_le (hrow x (List.mem_of_mem_take hx)))
    have htl : (rows.take k).length ≤ 4 := by simp; omega
    have hXl : (B0 ++ (rows.take k).flatMap ZY).length ≤ 100 := by simp only [List.length_append]; omega
    have hll : (B0 ++ (rows.take k).flatMap ZY).length + (ZY (rows[k]'(by omega))).length = (B0 ++ (rows.take (k + 1)).flatMap ZY).length := by rw [hts]; simp; omega
    have hmm : B0 ++ (rows.take k).flatMap ZY ++ ZY (rows[k]'(by omega)) = B0 ++ (rows.take (k + 1)).flatMap ZY := by rw [hts]; simp
    generalize rows[k]'(by omega) = x at *
    repeat' (first | (refine Zc (.func 286) ?_; refine qC rfl rfl (claid_spec _ v _ _ sp hown (by omega) x hro hid) ?_; rintro v2 ρ2 L2 hle0 ⟨hle2, sp2, hown2, rfl⟩; simp only [List.cons_append, List.nil_append, hmm]; rw [hmm, hll] at hown2) | (refine Zj ?_; first | (refine Zg ?_; refine qQ ?_) | refine Zl ?_) | refine Za ?_ | (refine Zi ?_; refine Zq ?_) | (refine Zh ?_; refine Zp ?_) | intro _)
    refine Zo (k + 1, _, v2, sp2) (⟨hlt, Hp.le_trans hle1 hle2, hown2⟩) Zk Zk rfl tk inferInstance (by first | omega | (dsimp only; omega))
   ·have hk2 : k = rn := by omega
    subst hk2
    rw [List.take_of_length_le (by omega)] at hown ⊢
    repeat' (first | (refine Zj ?_; first | (refine Zg ?_; refine qQ ?_) | refine Zl ?_) | refine Za ?_ | (refine Zi ?_; refine Zq ?_) | (refine Zh ?_; refine Zp ?_) | intro _)
    rw [show (B0 ++ rows.flatMap ZY).map ZM = (B0 ++ (rows.flatMap ZY ++ (kids.take 0).flatMap YE)).map ZM by simp]
    refine Zy [(2, _), (3, _), (45, _), (46, _)] (fun (ζ : (Nat) × (Hp) × (Value) × (List Value)) => [(47, .int .i64 ζ.1), (5, ζ.2.2.1)]) (fun (ζ : (Nat) × (Hp) × (Value) × (List Value)) => ζ.2.1) (fun (ζ : (Nat) × (Hp) × (Value) × (List Value)) => [Yu ζ.2.2.1 ((B0 ++ (rows.flatMap ZY ++ (kids.take ζ.1).flatMap YE)).map ZM) ζ.2.2.2 5]) (fun (ζ : (Nat) × (Hp) × (Value) × (List Value)) => ζ.1 ≤ kn ∧ ρ1.le ζ.2.1 ∧ OwnS ζ.2.2.1 (B0 ++ (rows.flatMap ZY ++ (kids.take ζ.1).flatMap YE)).length ((B0 ++ (rows.flatMap ZY ++ (kids.take ζ.1).flatMap YE)).map ZM) ζ.2.2.2 1) (fun (ζ : (Nat) × (Hp) × (Value) × (List Value)) => kn - ζ.1) ((0, ρ1, v, sp)) (⟨Nat.zero_le _, Hp.le_refl _, by simpa using hown⟩) Zk Zk rfl tk ?_
    rintro ⟨j, ρ2, v, sp⟩ hI
    try simp only [List.cons_append, List.nil_append, List.append_assoc, List.append_eq] at hI ⊢
    try dsimp only at hI ⊢
    have hfl := YH ZY 20 rows (fun x hx => rowB_le (hrow x hx))
    obtain ⟨hj0, hle3, hown3⟩ := hI
    by_cases hlj : j < kn
    ·obtain ⟨b, off, C, T, fr, rfl, hb, hfit, hc⟩ := (hk.mono (Hp.le_trans hle1 hle3)).get (show j < kids.length by omega)
     have hmem : kids[j]'(by omega) ∈ kids := List.getElem_mem _
     have hko := hkid _ hmem
     have hid := hik _ hmem
     have hts := Xt YE kids j (by omega)
     have hfk := YH YE 4 (kids.take j) (fun x hx => Nat.le_of_eq (kidB_len x))
     have htl : (kids.take j).length ≤ 4 := by simp; omega
     have hXl : (B0 ++ (rows.flatMap ZY ++ (kids.take j).flatMap YE)).length ≤ 200 := by simp only [List.length_append]; omega
     have hmm : B0 ++ (rows.flatMap ZY ++ (kids.take j).flatMap YE) ++ keyB (kids[j]'(by omega)).t (kids[j]'(by omega)).id ++ [tB (kids[j]'(by omega)).page] = B0 ++ (rows.flatMap ZY ++ (kids.take (j + 1)).flatMap YE) := by rw [hts]; simp [YE]
     have hll : (B0 ++ (rows.flatMap ZY ++ (kids.take j).flatMap YE)).length + 3 + 1 = (B0 ++ (rows.flatMap ZY ++ (kids.take (j + 1)).flatMap YE)).length := by rw [hts]; simp [kidB_len]; omega
     have hpg := tB_eq (t := (kids[j]'(by omega)).page) (by omega) (by omega)
     generalize kids[j]'(by omega) = x at *
     generalize hX : B0 ++ (rows.flatMap ZY ++ (kids.take j).flatMap YE) = X at *
     repeat' (first | (refine Zj ?_; first | (refine Zg ?_; refine qQ ?_) | refine Zl ?_) | refine Za ?_ | (refine Zi ?_; refine Zq ?_) | (refine Zh ?_; refine Zp ?_) | intro _)
     rename_i b9
     refine ZI (Zv _ _ ([[(b9, .cells ⟨Xs x⟩ 224 (0, 0))]])) (ZU (hT := tk) (Hp.le_refl _)) ?_
     all_goals (refine Ye 0 ?_; refine rFa 1 ?_; refine Yr 2 ?_; refine rFa 4 ?_; refine Yr 5 ?_; refine rCv 6 ?_)
     all_goals (refine Wp (i := 3) (j := 7) ?_ ?_ <;> ((try refine Zr ?_); (first | (refine Zc (.func 308) ?_; refine qC rfl rfl (key_spec _ v _ X sp hown3 (by omega) x.t x.id hko.1.1 (by omega) hid) ?_; rintro v2 ρ4 L2 hle0 ⟨hle4, sp4, hown4, rfl⟩; simp only [List.cons_append, List.nil_append]) | (refine ZJ rfl rfl rfl rfl (by simp) rfl rfl (fun _ => ?_); simp only [hpg]) | (refine Zl ?_; try intro _)) <;> ((try simp only [kM, kN, kO]); refine Za ?_; refine Zs ?_)))
     all_goals (first | (refine Zt (i := 7) ?_; ((try refine Zr ?_); (first | (refine ZJ rfl rfl rfl rfl (by simp) rfl rfl (fun _ => ?_); simp only [hpg]) | (refine Zl ?_; try intro _)) <;> ((try simp only [kM, kN, kO]); refine Za ?_; refine Zs ?_))) | (refine Zt (i := 3) ?_; ((try refine Zr ?_); (first | (refine Zc (.func 308) ?_; refine qC rfl rfl (key_spec _ v _ X sp hown3 (by omega) x.t x.id hko.1.1 (by omega) hid) ?_; rintro v2 ρ4 L2 hle0 ⟨hle4, sp4, hown4, rfl⟩; simp only [List.cons_append, List.nil_append]) | (refine Zl ?_; try intro _)) <;> ((try simp only [kM, kN, kO]); refine Za ?_; refine Zs ?_))))
     all_goals (refine Zt (i := 8) ?_; ((try refine Zr ?_); (first | (refine Zc (.func 308) ?_; refine qC rfl rfl (key_spec _ v _ X sp hown3 (by omega) x.t x.id hko.1.1 (by omega) hid) ?_; rintro v2 ρ4 L2 hle0 ⟨hle4, sp4, hown4, rfl⟩; simp only [List.cons_append, List.nil_append]) | (refine Yt (ys := [ZM (tB x.page)]) (m := 1) rfl rfl hown4 (hR := by infer_instance) SrcV.lit rfl rfl (by decide) rfl (by omega) (by omega) rfl (fun v5 sp5 hown5 => ?_); rw [show (X ++ keyB x.t x.id).map ZM ++ [ZM (tB x.page)] = (X ++ keyB x.t x.id ++ [tB x.page]).map ZM by simp, hmm] at hown5 ⊢; rw [hll] at hown5) | (refine Zl ?_; try intro _)) <;> ((try simp only [kM, kN, kO]); refine Za ?_; refine Zs ?_)))
     all_goals (refine Yi ?_; refine rAs 9 ?_; refine ZP ?_)
     all_goals (repeat' (first | (refine Zj ?_; first | (refine Zg ?_; refine qQ ?_) | refine Zl ?_) | refine Za ?_ | (refine Zi ?_; refine Zq ?_) | (refine Zh ?_; refine Zp ?_) | intro _))
     all_goals refine Zo (j + 1, _, v5, sp5) (⟨hlj, Hp.le_trans hle3 (by assumption), hown5⟩) Zk Zk rfl tk inferInstance (by first | omega | (dsimp only; omega))
    ·have hj2 : j = kn := by omega
     subst hj2
     rw [List.take_of_length_le (by omega)] at hown3 ⊢
     have hfin : B0 ++ (rows.flatMap ZY ++ kids.flatMap YE) = Ys ⟨kind, rows, kids⟩ := by rw [← hB0]; simp [Ys]
     rw [hfin] at hown3 ⊢
     repeat' (first | (refine Zj ?_; first | (refine Zg ?_; refine qQ ?_) | refine Zl ?_) | refine Za ?_ | (refine Zi ?_; refine Zq ?_) | (refine Zh ?_; refine Zp ?_) | intro _)
     refine YB _ (h := Rem.here) (fun ρ6 hle6 hfz => ?_)
     obtain ⟨a6, c6, rfl, hc6, hs6⟩ := hown3.sIn hfz
     exact qE ⟨Hp.le_trans hle1 (Hp.le_trans hle3 hle6), a6, _, c6, rfl, hc6, hs6, rfl⟩
  ·obtain ⟨B0, hB0⟩ : ∃ B0, tB kind :: cntB ⟨kind, rows, kids⟩ = B0 := ⟨_, rfl⟩
   have hX : B0 = [tB kind] ++ [UInt8.ofNat (rn + kn)] := by rw [← hB0]; simp [cntB, hk0, hrn, hkn]
   have hBl : B0.length ≤ 2 := by rw [hX]; simp
   have hcnt' : Value.int .u8 ((rn : Int) + (kn : Int)) = ZM (UInt8.ofNat (rn + kn)) := by rw [← hcnt]; simp
   repeat' (first | (refine Zc (.func 251) ?_; refine qC rfl rfl (hck _ ⟨hr, hk, hrb, hkb, hrc, hkc⟩) ?_; rintro v ρ' L' hle ⟨rfl, rfl, rfl⟩ <;> (try simp only [kM, kN, kO])) | (refine ZJ rfl rfl rfl rfl (by simp) rfl rfl (fun _ => ?_); first | simp only [hkB] | simp only [hcnt']) | (refine Zj ?_; first | (refine Zg ?_; refine qQ ?_) | refine Zl ?_) | refine Za ?_ | (refine Zi ?_; refine Zq ?_) | (refine Zh ?_; refine Zp ?_) | intro _)
   rename_i b1 b2 b3
   rw [show ([(b2, Obj.cells ⟨[ZM (tB kind)]⟩ 5 (0, 0))] : List (Nat × Obj)) = Yu (.slice (some ⟨b2, 0, none⟩) 1 1) ([tB kind].map ZM) [] 5 from rfl]
   refine Yt (ys := [ZM (UInt8.ofNat (rn + kn))]) (m := 1) (n := 1) (xs := [tB kind].map ZM) (sp := []) rfl rfl ⟨.inr ⟨b2, 1, rfl, rfl, rfl, Nat.le_refl _⟩⟩ (hR := by infer_instance) SrcV.lit rfl rfl (by decide) rfl (by omega) (by omega) rfl (fun v0 sp0 hown0 => ?_)
   rw [show [tB kind].map ZM ++ [ZM (UInt8.ofNat (rn + kn))] = B0.map ZM by rw [hX]; rfl] at hown0 ⊢
   replace hown0 : OwnS v0 B0.length (B0.map ZM) sp0 1 := by
    have e : B0.length = 1 + 1 := by rw [hX]; rfl
    rw [e]; exact hown0
   repeat' (first | (refine Zj ?_; first | (refine Zg ?_; refine qQ ?_) | refine Zl ?_) | refine Za ?_ | (refine Zi ?_; refine Zq ?_) | (refine Zh ?_; refine Zp ?_) | intro _)
   rw [show B0.map ZM = (B0 ++ (rows.take 0).flatMap ZY).map ZM by simp]
   refine Zy [(1, _), (2, _), (3, _), (34, _), (35, _)] (fun (ζ : (Nat) × (Hp) × (Value) × (List Value)) => [(36, .int .i64 ζ.1), (5, ζ.2.2.1)]) (fun (ζ : (Nat) × (Hp) × (Value) × (List Value)) => ζ.2.1) (fun (ζ : (Nat) × (Hp) × (Value) × (List Value)) => [Yu ζ.2.2.1 ((B0 ++ (rows.take ζ.1).flatMap ZY).map ZM) ζ.2.2.2 5, [(b1, .cells ⟨[.int .i64 kind, .slice ra rn rc, .slice ka kn kc]⟩ 110 (0, 0))]]) (fun (ζ : (Nat) × (Hp) × (Value) × (List Value)) => ζ.1 ≤ rn ∧ ρ'.le ζ.2.1 ∧ OwnS ζ.2.2.1 (B0 ++ (rows.take ζ.1).flatMap ZY).length ((B0 ++ (rows.take ζ.1).flatMap ZY).map ZM) ζ.2.2.2 1) (fun (ζ : (Nat) × (Hp) × (Value) × (List Value)) => rn - ζ.1) ((0, ρ', v0, sp0)) (⟨Nat.zero_le _, Hp.le_refl _, by simpa using hown0⟩) Zk Zk rfl tk ?_
   rintro ⟨k, ρ1, v, sp⟩ hI
   try simp only [List.cons_append, List.nil_append, List.append_assoc, List.append_eq] at hI ⊢
   try dsimp only at hI ⊢
   obtain ⟨hkn0, hle1, hown⟩ := hI
   by_cases hlt : k < rn
   ·obtain ⟨b, off, C, T, fr, rfl, hb, hfit, hc⟩ := (hr.mono hle1).get (show k < rows.length by omega)
    have hmem : rows[k]'(by omega) ∈ rows := List.getElem_mem _
    have hro := hrow _ hmem
    have hid := hir _ hmem
    have hts := Xt ZY rows k (by omega)
    have hfl := YH ZY 20 (rows.take k) (fun x hx => rowB_le (hrow x (List.mem_of_mem_take hx)))
    have htl : (rows.take k).length ≤ 4 := by simp; omega
    have hXl : (B0 ++ (rows.take k).flatMap ZY).length ≤ 100 := by simp only [List.length_append]; omega
    have hll : (B0 ++ (rows.take k).flatMap ZY).length + (ZY (rows[k]'(by omega))).length = (B0 ++ (rows.take (k + 1)).flatMap ZY).length := by rw [hts]; simp; omega
    have hmm : B0 ++ (rows.take k).flatMap ZY ++ ZY (rows[k]'(by omega)) = B0 ++ (rows.take (k + 1)).flatMap ZY := by rw [hts]; simp
    generalize rows[k]'(by omega) = x at *
    repeat' (first | (refine Zc (.func 286) ?_; refine qC rfl rfl (claid_spec _ v _ _ sp hown (by omega) x hro hid) ?_; rintro v2 ρ2 L2 hle0 ⟨hle2, sp2, hown2, rfl⟩; simp only [List.cons_append, List.nil_append, hmm]; rw [hmm, hll] at hown2) | (refine Zj ?_; first | (refine Zg ?_; refine qQ ?_) | refine Zl ?_) | refine Za ?_ | (refine Zi ?_; refine Zq ?_) | (refine Zh ?_; refine Zp ?_) | intro _)
    refine Zo (k + 1, _, v2, sp2) (⟨hlt, Hp.le_trans hle1 hle2, hown2⟩) Zk Zk rfl tk inferInstance (by first | omega | (dsimp only; omega))
   ·have hk2 : k = rn := by omega
    subst hk2
    rw [List.take_of_length_le (by omega)] at hown ⊢
    repeat' (first | (refine Zj ?_; first | (refine Zg ?_; refine qQ ?_) | refine Zl ?_) | refine Za ?_ | (refine Zi ?_; refine Zq ?_) | (refine Zh ?_; refine Zp ?_) | intro _)
    rw [show (B0 ++ rows.flatMap ZY).map ZM = (B0 ++ (rows.flatMap ZY ++ (kids.take 0).flatMap YE)).map ZM by simp]
    refine Zy [(2, _), (3, _), (45, _), (46, _)] (fun (ζ : (Nat) × (Hp) × (Value) × (List Value)) => [(47, .int .i64 ζ.1), (5, ζ.2.2.1)]) (fun (ζ : (Nat) × (Hp) × (Value) × (List Value)) => ζ.2.1) (fun (ζ : (Nat) × (Hp) × (Value) × (List Value)) => [Yu ζ.2.2.1 ((B0 ++ (rows.flatMap ZY ++ (kids.take ζ.1).flatMap YE)).map ZM) ζ.2.2.2 5]) (fun (ζ : (Nat) × (Hp) × (Value) × (List Value)) => ζ.1 ≤ kn ∧ ρ1.le ζ.2.1 ∧ OwnS ζ.2.2.1 (B0 ++ (rows.flatMap ZY ++ (kids.take ζ.1).flatMap YE)).length ((B0 ++ (rows.flatMap ZY ++ (kids.take ζ.1).flatMap YE)).map ZM) ζ.2.2.2 1) (fun (ζ : (Nat) × (Hp) × (Value) × (List Value)) => kn - ζ.1) ((0, ρ1, v, sp)) (⟨Nat.zero_le _, Hp.le_refl _, by simpa using hown⟩) Zk Zk rfl tk ?_
    rintro ⟨j, ρ2, v, sp⟩ hI
    try simp only [List.cons_append, List.nil_append, List.append_assoc, List.append_eq] at hI ⊢
    try dsimp only at hI ⊢
    have hfl := YH ZY 20 rows (fun x hx => rowB_le (hrow x hx))
    obtain ⟨hj0, hle3, hown3⟩ := hI
    by_cases hlj : j < kn
    ·obtain ⟨b, off, C, T, fr, rfl, hb, hfit, hc⟩ := (hk.mono (Hp.le_trans hle1 hle3)).get (show j < kids.length by omega)
     have hmem : kids[j]'(by omega) ∈ kids := List.getElem_mem _
     have hko := hkid _ hmem
     have hid := hik _ hmem
     have hts := Xt YE kids j (by omega)
     have hfk := YH YE 4 (kids.take j) (fun x hx => Nat.le_of_eq (kidB_len x))
     have htl : (kids.take j).length ≤ 4 := by simp; omega
     have hXl : (B0 ++ (rows.flatMap ZY ++ (kids.take j).flatMap YE)).length ≤ 200 := by simp only [List.length_append]; omega
     have hmm : B0 ++ (rows.flatMap ZY ++ (kids.take j).flatMap YE) ++ keyB (kids[j]'(by omega)).t (kids[j]'(by omega)).id ++ [tB (kids[j]'(by omega)).page] = B0 ++ (rows.flatMap ZY ++ (kids.take (j + 1)).flatMap YE) := by rw [hts]; simp [YE]
     have hll : (B0 ++ (rows.flatMap ZY ++ (kids.take j).flatMap YE)).length + 3 + 1 = (B0 ++ (rows.flatMap ZY ++ (kids.take (j + 1)).flatMap YE)).length := by rw [hts]; simp [kidB_len]; omega
     have hpg := tB_eq (t := (kids[j]'(by omega)).page) (by omega) (by omega)
     generalize kids[j]'(by omega) = x at *
     generalize hX : B0 ++ (rows.flatMap ZY ++ (kids.take j).flatMap YE) = X at *
     repeat' (first | (refine Zj ?_; first | (refine Zg ?_; refine qQ ?_) | refine Zl ?_) | refine Za ?_ | (refine Zi ?_; refine Zq ?_) | (refine Zh ?_; refine Zp ?_) | intro _)
     rename_i b9
     refine ZI (Zv _ _ ([[(b9, .cells ⟨Xs x⟩ 224 (0, 0))]])) (ZU (hT := tk) (Hp.le_refl _)) ?_
     all_goals (refine Ye 0 ?_; refine rFa 1 ?_; refine Yr 2 ?_; refine rFa 4 ?_; refine Yr 5 ?_; refine rCv 6 ?_)
     all_goals (refine Wp (i := 3) (j := 7) ?_ ?_ <;> ((try refine Zr ?_); (first | (refine Zc (.func 308) ?_; refine qC rfl rfl (key_spec _ v _ X sp hown3 (by omega) x.t x.id hko.1.1 (by omega) hid) ?_; rintro v2 ρ4 L2 hle0 ⟨hle4, sp4, hown4, rfl⟩; simp only [List.cons_append, List.nil_append]) | (refine ZJ rfl rfl rfl rfl (by simp) rfl rfl (fun _ => ?_); simp only [hpg]) | (refine Zl ?_; try intro _)) <;> ((try simp only [kM, kN, kO]); refine Za ?_; refine Zs ?_)))
     all_goals (first | (refine Zt (i := 7) ?_; ((try refine Zr ?_); (first | (refine ZJ rfl rfl rfl rfl (by simp) rfl rfl (fun _ => ?_); simp only [hpg]) | (refine Zl ?_; try intro _)) <;> ((try simp only [kM, kN, kO]); refine Za ?_; refine Zs ?_))) | (refine Zt (i := 3) ?_; ((try refine Zr ?_); (first | (refine Zc (.func 308) ?_; refine qC rfl rfl (key_spec _ v _ X sp hown3 (by omega) x.t x.id hko.1.1 (by omega) hid) ?_; rintro v2 ρ4 L2 hle0 ⟨hle4, sp4, hown4, rfl⟩; simp only [List.cons_append, List.nil_append]) | (refine Zl ?_; try intro _)) <;> ((try simp only [kM, kN, kO]); refine Za ?_; refine Zs ?_))))
     all_goals (refine Zt (i := 8) ?_; ((try refine Zr ?_); (first | (refine Zc (.func 308) ?_; refine qC rfl rfl (key_spec _ v _ X sp hown3 (by omega) x.t x.id hko.1.1 (by omega) hid) ?_; rintro v2 ρ4 L2 hle0 ⟨hle4, sp4, hown4, rfl⟩; simp only [List.cons_append, List.nil_append]) | (refine Yt (ys := [ZM (tB x.page)]) (m := 1) rfl rfl hown4 (hR := by infer_instance) SrcV.lit rfl rfl (by decide) rfl (by omega) (by omega) rfl (fun v5 sp5 hown5 => ?_); rw [show (X ++ keyB x.t x.id).map ZM ++ [ZM (tB x.page)] = (X ++ keyB x.t x.id ++ [tB x.page]).map ZM by simp, hmm] at hown5 ⊢; rw [hll] at hown5) | (refine Zl ?_; try intro _)) <;> ((try simp only [kM, kN, kO]); refine Za ?_; refine Zs ?_)))
     all_goals (refine Yi ?_; refine rAs 9 ?_; refine ZP ?_)
     all_goals (repeat' (first | (refine Zj ?_; first | (refine Zg ?_; refine qQ ?_) | refine Zl ?_) | refine Za ?_ | (refine Zi ?_; refine Zq ?_) | (refine Zh ?_; refine Zp ?_) | intro _))
     all_goals refine Zo (j + 1, _, v5, sp5) (⟨hlj, Hp.le_trans hle3 (by assumption), hown5⟩) Zk Zk rfl tk inferInstance (by first | omega | (dsimp only; omega))
    ·have hj2 : j = kn := by omega
     subst hj2
     rw [List.take_of_length_le (by omega)] at hown3 ⊢
     have hfin : B0 ++ (rows.flatMap ZY ++ kids.flatMap YE) = Ys ⟨kind, rows, kids⟩ := by rw [← hB0]; simp [Ys]
     rw [hfin] at hown3 ⊢
     repeat' (first | (refine Zj ?_; first | (refine Zg ?_; refine qQ ?_) | refine Zl ?_) | refine Za ?_ | (refine Zi ?_; refine Zq ?_) | (refine Zh ?_; refine Zp ?_) | intro _)
     refine YB _ (h := Rem.here) (fun ρ6 hle6 hfz => ?_)
     obtain ⟨a6, c6, rfl, hc6, hs6⟩ := hown3.sIn hfz
     exact qE ⟨Hp.le_trans hle1 (Hp.le_trans hle3 hle6), a6, _, c6, rfl, hc6, hs6, rfl⟩
instance : Yv Tryz.prog 30 := mkFun (by kernel_rfl)
instance (priority := 1200) eqRow {x y : Row} : EqC Tryz.prog 8 101 (.agg ⟨YY x⟩) (.agg ⟨YY y⟩) (decide (x = y)) := by
 have h : EqC Tryz.prog 8 101 (.agg ⟨[.int .i64 x.t, .int .u16 x.id, .int .i64 x.val, strV x.note]⟩) (.agg ⟨[.int .i64 y.t, .int .u16 y.id, .int .i64 y.val, strV y.note]⟩) _ := inferInstance
 refine ⟨fun d w hd => ?_⟩
 rw [h.out d w hd]
 congr 1
 obtain ⟨t, i, v, n⟩ := x
 obtain ⟨t', i', v', n'⟩ := y
 simp only [Row.mk.injEq, Bool.and_true, Bool.decide_and]
 have e : ((i : Int) == (i' : Int)) = decide (i = i') := by
  by_cases h : i = i'
  ·subst h; simp
  ·rw [decide_eq_false h]; simp only [beq_eq_false_iff_ne, ne_eq]; omega
 rw [e]
 by_cases h1 : t = t' <;> by_cases h2 : i = i' <;> by_cases h3 : v = v' <;> simp [h1, h2, h3]
instance (priority := 1200) eqKid {x y : Kid} : EqC Tryz.prog 8 224 (.agg ⟨Xs x⟩) (.agg ⟨Xs y⟩) (decide (x = y)) := by
 have h : EqC Tryz.prog 8 224 (.agg ⟨[.int .i64 x.t, .int .u16 x.id, .int .i64 x.page]⟩) (.agg ⟨[.int .i64 y.t, .int .u16 y.id, .int .i64 y.page]⟩) _ := inferInstance
 refine ⟨fun d w hd => ?_⟩
 rw [h.out d w hd]
 congr 1
 obtain ⟨t, i, v⟩ := x
 obtain ⟨t', i', v'⟩ := y
 simp only [Kid.mk.injEq, Bool.and_true, Bool.decide_and]
 have e : ((i : Int) == (i' : Int)) = decide (i = i') := by
  by_cases h : i = i'
  ·subst h; simp
  ·rw [decide_eq_false h]; simp only [beq_eq_false_iff_ne, ne_eq]; omega
 rw [e]
 by_cases h1 : t = t' <;> by_cases h2 : i = i' <;> by_cases h3 : v = v' <;> simp [h1, h2, h3]
theorem slEqROW_spec (ρ : Hp) (a a' : Option Addr) (n c n' c' : Nat) (l m : List Row) (h : AIn ρ 4 YY a n l) (h' : AIn ρ 4 YY a' n' m) (hn : n ≤ 1000000) :
  Spec Tryz.prog 191 [.slice a n c, .slice a' n' c'] ρ [] (fun v ρ' L' => v = .bool (decide (l = m)) ∧ ρ' = ρ ∧ L' = []) := by
 have hl := h.len
 have hm := h'.len
 refine Zf Tryz.func191 rfl rfl rfl fun u R => ?_
 simp only [Zx, List.cons_append, List.nil_append]
 by_cases hne : n = n'
 ·subst hne
  repeat' (first | (refine Zj ?_; first | (refine Zg ?_; refine qQ ?_) | refine Zl ?_) | refine Za ?_ | (refine Zi ?_; refine Zq ?_) | (refine Zh ?_; refine Zp ?_) | intro _)
  refine Zy [(0, _), (1, _), (4, _), (12, _)] (fun (ζ : (Nat)) => [(13, .int .i64 ζ)]) (fun (ζ : (Nat)) => ρ) (fun (ζ : (Nat)) => []) (fun (ζ : (Nat)) => ζ ≤ n ∧ l.take ζ = m.take ζ) (fun (ζ : (Nat)) => n - ζ) (0) (⟨Nat.zero_le _, rfl⟩) Zk Zk rfl tk ?_
  rintro k hI
  try simp only [List.cons_append, List.nil_append, List.append_assoc, List.append_eq] at hI ⊢
  try dsimp only at hI ⊢
  obtain ⟨hk, hpre⟩ := hI
  by_cases hlt : k < n
  ·obtain ⟨b, off, C, T, fr, rfl, hb, hfit, hc⟩ := h.get (show k < l.length by omega)
   obtain ⟨b2, off2, C2, T2, fr2, rfl, hb2, hfit2, hc2⟩ := h'.get (show k < m.length by omega)
   have ht1 := List.take_succ_eq_append_getElem (show k < l.length by omega)
   have ht2 := List.take_succ_eq_append_getElem (show k < m.length by omega)
   have hf : l = m → l[k]'(by omega) = m[k]'(by omega) := fun e => by subst e; rfl
   generalize l[k]'(by omega) = x at *
   generalize m[k]'(by omega) = y at *
   by_cases he : x = y
   ·have hd : decide (x = y) = true := decide_eq_true he
    repeat' (first | (refine Zj ?_; first | (refine Zg ?_; refine qQ ?_) | refine Zl ?_) | refine Za ?_ | (refine Zi ?_; refine Zq ?_) | (refine Zh ?_; refine Zp ?_) | intro _)
    refine ZI (Zv _ _ _) ZC ?_
    all_goals (refine Ye 0 ?_; refine Yi ?_; refine Ye 1 ?_; refine rIa 2 ?_; refine Yr 3 ?_; refine Ye 4 ?_; refine Ye 5 ?_; refine rIa 6 ?_; refine Yr 7 ?_; refine rCm 8 ?_; refine ZP ?_)
    try simp only [hd]
    repeat' (first | (refine Zj ?_; first | (refine Zg ?_; refine qQ ?_) | refine Zl ?_) | refine Za ?_ | (refine Zi ?_; refine Zq ?_) | (refine Zh ?_; refine Zp ?_) | intro _)
    refine Zo (k + 1) (⟨hlt, by rw [ht1, ht2, hpre, he]⟩) Zk Zk rfl tk inferInstance (by first | omega | (dsimp only; omega))
   ·have hd : decide (x = y) = false := decide_eq_false he
    rw [decide_eq_false (fun e => he (hf e))]
    repeat' (first | (refine Zj ?_; first | (refine Zg ?_; refine qQ ?_) | refine Zl ?_) | refine Za ?_ | (refine Zi ?_; refine Zq ?_) | (refine Zh ?_; refine Zp ?_) | intro _)
    refine ZI (Zv _ _ _) ZC ?_
    all_goals (refine Ye 0 ?_; refine Yi ?_; refine Ye 1 ?_; refine rIa 2 ?_; refine Yr 3 ?_; refine Ye 4 ?_; refine Ye 5 ?_; refine rIa 6 ?_; refine Yr 7 ?_; refine rCm 8 ?_; refine ZP ?_)
    try simp only [hd]
    repeat' (first | (refine Zj ?_; first | (refine Zg ?_; refine qQ ?_) | refine Zl ?_) | refine Za ?_ | (refine Zi ?_; refine Zq ?_) | (refine Zh ?_; refine Zp ?_) | intro _)
    exact qE ⟨rfl, rfl, rfl⟩
  ·have hk2 : k = n := by omega
   subst hk2
   rw [List.take_of_length_le (by omega), List.take_of_length_le (by omega)] at hpre
   rw [decide_eq_true hpre]
   repeat' (first | (refine Zj ?_; first | (refine Zg ?_; refine qQ ?_) | refine Zl ?_) | refine Za ?_ | (refine Zi ?_; refine Zq ?_) | (refine Zh ?_; refine Zp ?_) | intro _)
   exact qE ⟨rfl, rfl, rfl⟩
 ·rw [decide_eq_false (fun e : l = m => hne (by rw [← hl, ← hm, e]))]
  repeat' (first | (refine Zj ?_; first | (refine Zg ?_; refine qQ ?_) | refine Zl ?_) | refine Za ?_ | (refine Zi ?_; refine Zq ?_) | (refine Zh ?_; refine Zp ?_) | intro _)
  exact qE ⟨rfl, rfl, rfl⟩
theorem slEqKID_spec (ρ : Hp) (a a' : Option Addr) (n c n' c' : Nat) (l m : List Kid) (h : AIn ρ 3 Xs a n l) (h' : AIn ρ 3 Xs a' n' m) (hn : n ≤ 1000000) :
  Spec Tryz.prog 192 [.slice a n c, .slice a' n' c'] ρ [] (fun v ρ' L' => v = .bool (decide (l = m)) ∧ ρ' = ρ ∧ L' = []) := by
 have hl := h.len
 have hm := h'.len
 refine Zf Tryz.func192 rfl rfl rfl fun u R => ?_
 simp only [Zx, List.cons_append, List.nil_append]
 by_cases hne : n = n'
 ·subst hne
  repeat' (first | (refine Zj ?_; first | (refine Zg ?_; refine qQ ?_) | refine Zl ?_) | refine Za ?_ | (refine Zi ?_; refine Zq ?_) | (refine Zh ?_; refine Zp ?_) | intro _)
  refine Zy [(0, _), (1, _), (4, _), (12, _)] (fun (ζ : (Nat)) => [(13, .int .i64 ζ)]) (fun (ζ : (Nat)) => ρ) (fun (ζ : (Nat)) => []) (fun (ζ : (Nat)) => ζ ≤ n ∧ l.take ζ = m.take ζ) (fun (ζ : (Nat)) => n - ζ) (0) (⟨Nat.zero_le _, rfl⟩) Zk Zk rfl tk ?_
  rintro k hI
  try simp only [List.cons_append, List.nil_append, List.append_assoc, List.append_eq] at hI ⊢
  try dsimp only at hI ⊢
  obtain ⟨hk, hpre⟩ := hI
  by_cases hlt : k < n
  ·obtain ⟨b, off, C, T, fr, rfl, hb, hfit, hc⟩ := h.get (show k < l.length by omega)
   obtain ⟨b2, off2, C2, T2, fr2, rfl, hb2, hfit2, hc2⟩ := h'.get (show k < m.length by omega)
   have ht1 := List.take_succ_eq_append_getElem (show k < l.length by omega)
   have ht2 := List.take_succ_eq_append_getElem (show k < m.length by omega)
   have hf : l = m → l[k]'(by omega) = m[k]'(by omega) := fun e => by subst e; rfl
   generalize l[k]'(by omega) = x at *
   generalize m[k]'(by omega) = y at *
   by_cases he : x = y
   ·have hd : decide (x = y) = true := decide_eq_true he
    repeat' (first | (refine Zj ?_; first | (refine Zg ?_; refine qQ ?_) | refine Zl ?_) | refine Za ?_ | (refine Zi ?_; refine Zq ?_) | (refine Zh ?_; refine Zp ?_) | intro _)
    refine ZI (Zv _ _ _) ZC ?_
    all_goals (refine Ye 0 ?_; refine Yi ?_; refine Ye 1 ?_; refine rIa 2 ?_; refine Yr 3 ?_; refine Ye 4 ?_; refine Ye 5 ?_; refine rIa 6 ?_; refine Yr 7 ?_; refine rCm 8 ?_; refine ZP ?_)
    try simp only [hd]
    repeat' (first | (refine Zj ?_; first | (refine Zg ?_; refine qQ ?_) | refine Zl ?_) | refine Za ?_ | (refine Zi ?_; refine Zq ?_) | (refine Zh ?_; refine Zp ?_) | intro _)
    refine Zo (k + 1) (⟨hlt, by rw [ht1, ht2, hpre, he]⟩) Zk Zk rfl tk inferInstance (by first | omega | (dsimp only; omega))
   ·have hd : decide (x = y) = false := decide_eq_false he
    rw [decide_eq_false (fun e => he (hf e))]
    repeat' (first | (refine Zj ?_; first | (refine Zg ?_; refine qQ ?_) | refine Zl ?_) | refine Za ?_ | (refine Zi ?_; refine Zq ?_) | (refine Zh ?_; refine Zp ?_) | intro _)
    refine ZI (Zv _ _ _) ZC ?_
    all_goals (refine Ye 0 ?_; refine Yi ?_; refine Ye 1 ?_; refine rIa 2 ?_; refine Yr 3 ?_; refine Ye 4 ?_; refine Ye 5 ?_; refine rIa 6 ?_; refine Yr 7 ?_; refine rCm 8 ?_; refine ZP ?_)
    try simp only [hd]
    repeat' (first | (refine Zj ?_; first | (refine Zg ?_; refine qQ ?_) | refine Zl ?_) | refine Za ?_ | (refine Zi ?_; refine Zq ?_) | (refine Zh ?_; refine Zp ?_) | intro _)
    exact qE ⟨rfl, rfl, rfl⟩
  ·have hk2 : k = n := by omega
   subst hk2
   rw [List.take_of_length_le (by omega), List.take_of_length_le (by omega)] at hpre
   rw [decide_eq_true hpre]
   repeat' (first | (refine Zj ?_; first | (refine Zg ?_; refine qQ ?_) | refine Zl ?_) | refine Za ?_ | (refine Zi ?_; refine Zq ?_) | (refine Zh ?_; refine Zp ?_) | intro _)
   exact qE ⟨rfl, rfl, rfl⟩
 ·rw [decide_eq_false (fun e : l = m => hne (by rw [← hl, ← hm, e]))]
  repeat' (first | (refine Zj ?_; first | (refine Zg ?_; refine qQ ?_) | refine Zl ?_) | refine Za ?_ | (refine Zi ?_; refine Zq ?_) | (refine Zh ?_; refine Zp ?_) | intro _)
  exact qE ⟨rfl, rfl, rfl⟩
theorem same_spec (ρ : Hp) (w w' : CV) (c d : XQ) (h : CIn ρ w c.rows c.kids) (h' : CIn ρ w' d.rows d.kids) :
  Spec Tryz.prog 111 [.agg ⟨XJ c.kind w⟩, .agg ⟨XJ d.kind w'⟩] ρ [] (fun v ρ' L' => v = .bool (decide (c = d)) ∧ ρ' = ρ ∧ L' = []) := by
 have hr := fun ρ h h' => slEqROW_spec ρ w.ra w'.ra w.rn w.rc w'.rn w'.rc c.rows d.rows h h' (CIn.rb (by assumption))
 have hk := fun ρ h h' => slEqKID_spec ρ w.ka w'.ka w.kn w.kc w'.kn w'.kc c.kids d.kids h h' (CIn.kb (by assumption))
 obtain ⟨kind, rows, kids⟩ := c
 obtain ⟨kind', rows', kids'⟩ := d
 dsimp only at hr hk h h' ⊢
 have hrr := h.r
 have hrr' := h'.r
 have hkk := h.k
 have hkk' := h'.k
 simp only [XQ.mk.injEq]
 refine Zf Tryz.func111 rfl rfl rfl fun u R => ?_
 simp only [Zx, List.cons_append, List.nil_append]
 by_cases h1 : kind = kind'
 ·by_cases h2 : rows = rows'
  ·rw [decide_eq_true h2] at hr
   by_cases h3 : kids = kids'
   ·rw [decide_eq_true h3] at hk
    rw [decide_eq_true ⟨h1, h2, h3⟩]
    repeat' (first | (refine Zc (.func 191) ?_; refine qC rfl rfl (hr _ hrr hrr') ?_; rintro v ρ' L' hle ⟨rfl, rfl, rfl⟩ <;> (try simp only [kM, kN, kO])) | (refine Zc (.func 192) ?_; refine qC rfl rfl (hk _ hkk hkk') ?_; rintro v ρ' L' hle ⟨rfl, rfl, rfl⟩ <;> (try simp only [kM, kN, kO])) | (refine Zj ?_; first | (refine Zg ?_; refine qQ ?_) | refine Zl ?_) | refine Za ?_ | (refine Zi ?_; refine Zq ?_) | (refine Zh ?_; refine Zp ?_) | intro _)
    exact qE ⟨rfl, rfl, rfl⟩
   ·rw [decide_eq_false h3] at hk
    rw [decide_eq_false (fun e => h3 e.2.2)]
    repeat' (first | (refine Zc (.func 191) ?_; refine qC rfl rfl (hr _ hrr hrr') ?_; rintro v ρ' L' hle ⟨rfl, rfl, rfl⟩ <;> (try simp only [kM, kN, kO])) | (refine Zc (.func 192) ?_; refine qC rfl rfl (hk _ hkk hkk') ?_; rintro v ρ' L' hle ⟨rfl, rfl, rfl⟩ <;> (try simp only [kM, kN, kO])) | (refine Zj ?_; first | (refine Zg ?_; refine qQ ?_) | refine Zl ?_) | refine Za ?_ | (refine Zi ?_; refine Zq ?_) | (refine Zh ?_; refine Zp ?_) | intro _)
    exact qE ⟨rfl, rfl, rfl⟩
  ·rw [decide_eq_false h2] at hr
   rw [decide_eq_false (fun e => h2 e.2.1)]
   repeat' (first | (refine Zc (.func 191) ?_; refine qC rfl rfl (hr _ hrr hrr') ?_; rintro v ρ' L' hle ⟨rfl, rfl, rfl⟩ <;> (try simp only [kM, kN, kO])) | (refine Zj ?_; first | (refine Zg ?_; refine qQ ?_) | refine Zl ?_) | refine Za ?_ | (refine Zi ?_; refine Zq ?_) | (refine Zh ?_; refine Zp ?_) | intro _)
   exact qE ⟨rfl, rfl, rfl⟩
 ·rw [decide_eq_false (fun e => h1 e.1)]
  repeat' (first | (refine Zj ?_; first | (refine Zg ?_; refine qQ ?_) | refine Zl ?_) | refine Za ?_ | (refine Zi ?_; refine Zq ?_) | (refine Zh ?_; refine Zp ?_) | intro _)
  exact qE ⟨rfl, rfl, rfl⟩
theorem Wb {k : Nat} {l : List UInt8} {st : Int} (h : (Yk k l st).2.2 = 0) : st = 0 ∧ k ≤ l.length ∧ Yk k l st = (Xc (l.take k), l.drop k, 0) := by
 unfold Yk at h ⊢
 by_cases hs : st ≠ 0
 ·rw [if_pos hs] at h; exact absurd h hs
 ·have h0 : st = 0 := by simpa using hs
  rw [if_neg hs] at h ⊢
  by_cases hl : l.length < k
  ·rw [if_pos hl] at h; simp at h
  ·rw [if_neg hl]; exact ⟨h0, by omega, rfl⟩
theorem rawR_zero {k : Nat} {l : List UInt8} {st : Int} (h : (Wo k l st).2.2 = 0) : st = 0 ∧ k ≤ l.length ∧ Wo k l st = (l.take k, l.drop k, 0) := by
 unfold Wo at h ⊢
 by_cases hs : st ≠ 0
 ·rw [if_pos hs] at h; exact absurd h hs
 ·have h0 : st = 0 := by simpa using hs
  rw [if_neg hs] at h ⊢
  by_cases hl : l.length < k
  ·rw [if_pos hl] at h; simp at h
  ·rw [if_neg hl]; exact ⟨h0, by omega, rfl⟩
theorem be_take {k : Nat} {l : List UInt8} (h : k ≤ l.length) : be k (Xc (l.take k)) = l.take k := by
 have := be_unbe (l.take k)
 rwa [List.length_take, Nat.min_eq_left h] at this
theorem be_one (x : Nat) : be 1 x = [UInt8.ofNat x] := by simp [be]
theorem tB_nat (x : Nat) : tB (x : Int) = UInt8.ofNat x := rfl
theorem vN_i64N {x : Nat} (h : x < 18446744073709551616) : vN (i64N x) = x := by
 have h1 : IntKind.u64.wrap (i64N x) = x := by
  unfold i64N
  simp only [IntKind.wrap, IntKind.bits, IntKind.signed, Bool.true_and, Bool.false_and, Bool.false_eq_true, if_false]
  split <;> simp_all <;> omega
 simp [vN, h1]
theorem i64N_vN {v : Int} (h : -9223372036854775808 ≤ v ∧ v ≤ 9223372036854775807) : i64N (vN v) = v := by
 unfold i64N
 rw [← vN_eq]
 simp only [IntKind.wrap, IntKind.bits, IntKind.signed, Bool.true_and, Bool.false_and, Bool.false_eq_true, if_false]
 split <;> simp_all <;> omega
theorem needB_false {bad : Bool} {st : Int} {is : Bool} (h : Xi bad st is = false) (hs : st = 0) : bad = false ∧ is = true := by
 subst hs
 cases bad <;> cases is <;> simp_all [Xi]
structure YC (r : Row) : Prop where
 id : r.id < 65536
 val : -9223372036854775808 ≤ r.val ∧ r.val ≤ 9223372036854775807
theorem i64N_fit (x : Nat) : -9223372036854775808 ≤ i64N x ∧ i64N x ≤ 9223372036854775807 := by
 unfold i64N
 simp only [IntKind.wrap, IntKind.bits, IntKind.signed, Bool.true_and]
 split <;> simp_all <;> omega
theorem rowR_ok {l l' : List UInt8} {st : Int} {bad : Bool} {r : Row} (h : XL l st bad = (r, l', 0, false)) : st = 0 ∧ bad = false ∧ Yy r = true ∧ l = ZY r ++ l' ∧ YC r := by
 unfold XL at h
 dsimp only at h
 split at h
 ·rename_i hok
  rw [Bool.and_eq_true, Bool.not_eq_true'] at hok
  obtain ⟨hb1, hs1⟩ := hok
  have hs1 := of_decide_eq_true hs1
  obtain ⟨rfl, hl1, e1⟩ := Wb hs1
  obtain ⟨rfl, ht⟩ := needB_false hb1 hs1
  split at h
  ·rename_i hok2
   rw [Bool.and_eq_true, Bool.not_eq_true'] at hok2
   obtain ⟨hb2, hs4⟩ := hok2
   have hs4 := of_decide_eq_true hs4
   obtain ⟨hs3, hl4, e4⟩ := Wb hs4
   obtain ⟨hs2, hl3, e3⟩ := Wb hs3
   obtain ⟨hs1', hl2, e2⟩ := Wb hs2
   obtain ⟨_, hn⟩ := needB_false hb2 hs4
   have ht := of_decide_eq_true ht
   have hn := of_decide_eq_true hn
   simp only [Prod.mk.injEq] at h
   obtain ⟨h1, h2, h3, h4⟩ := h
   obtain ⟨_, hl5, e5⟩ := rawR_zero h3
   subst h1; subst h2
   rw [e5]
   simp only [e4] at hl5 hn e5 ⊢
   simp only [e3] at hl4 hl5 hn e5 ⊢
   simp only [e2] at hl3 hl4 hl5 hn e5 ⊢
   simp only [e1] at hl2 hl3 hl4 hl5 hn ht e5 ⊢
   have b1 := be_take hl1
   have b2 := be_take hl2
   have b3 := be_take hl3
   have b4 := be_take hl4
   rw [be_one] at b1 b4
   have u2 := unbe_lt ((l.drop 1).take 2)
   have u3 := unbe_lt (((l.drop 1).drop 2).take 8)
   rw [List.length_take, Nat.min_eq_left hl2] at u2
   rw [List.length_take, Nat.min_eq_left hl3] at u3
   have hlen : (List.take (Xc (List.take 1 (List.drop 8 (List.drop 2 (List.drop 1 l))))) (List.drop 1 (List.drop 8 (List.drop 2 (List.drop 1 l))))).length = Xc (List.take 1 (List.drop 8 (List.drop 2 (List.drop 1 l)))) := by rw [List.length_take, Nat.min_eq_left hl5]
   refine ⟨by trivial, by trivial, ?_, ?_, ⟨by dsimp only; omega, i64N_fit _⟩⟩
   ·unfold Yy
    dsimp only
    rw [hlen]
    exact decide_eq_true ⟨⟨by omega, by omega⟩, by omega⟩
   ·unfold ZY keyB
    dsimp only
    rw [hlen, vN_i64N (by omega), b3, b2, tB_nat]
    have c1 : UInt8.ofNat (Xc (List.take 1 l)) :: (List.take 2 (List.drop 1 l)) = List.take 1 l ++ List.take 2 (List.drop 1 l) := by
     show [UInt8.ofNat (Xc (List.take 1 l))] ++ _ = _
     rw [b1]
    rw [c1]
    have c4 : ∀ X : List UInt8, UInt8.ofNat (Xc (List.take 1 (List.drop 8 (List.drop 2 (List.drop 1 l))))) :: X = List.take 1 (List.drop 8 (List.drop 2 (List.drop 1 l))) ++ X := fun X => by
     show [UInt8.ofNat (Xc (List.take 1 (List.drop 8 (List.drop 2 (List.drop 1 l)))))] ++ X = _
     rw [b4]
    rw [c4]
    simp only [List.append_assoc, List.take_append_drop]
  ·rename_i hok2
   simp only [Prod.mk.injEq] at h
   obtain ⟨_, _, h3, h4⟩ := h
   exact absurd (by rw [h4, h3]; rfl) hok2
 ·rename_i hok
  simp only [Prod.mk.injEq] at h
  obtain ⟨_, _, h3, h4⟩ := h
  exact absurd (by rw [h4, h3]; rfl) hok
structure KidFit (k : Kid) : Prop where
 id : k.id < 65536
 t : 0 ≤ k.t ∧ k.t < 256
 page : 0 ≤ k.page ∧ k.page < 256
theorem kidRB_ok {l l' : List UInt8} {st : Int} {bad : Bool} {r : Kid} (h : Xy l st bad = (r, l', 0, false)) : st = 0 ∧ bad = false ∧ l = YE r ++ l' ∧ KidFit r := by
 unfold Xy kidR at h
 dsimp only at h
 simp only [Prod.mk.injEq] at h
 obtain ⟨h1, h2, h3, h4⟩ := h
 obtain ⟨hs2, hl3, e3⟩ := Wb h3
 obtain ⟨hs1, hl2, e2⟩ := Wb hs2
 obtain ⟨rfl, hl1, e1⟩ := Wb hs1
 subst h1; subst h2
 simp only [e3]
 simp only [e2] at hl3 ⊢
 simp only [e1] at hl2 hl3 ⊢
 have b1 := be_take hl1
 have b2 := be_take hl2
 have b3 := be_take hl3
 rw [be_one] at b1 b3
 have u1 := unbe_lt (l.take 1)
 have u2 := unbe_lt ((l.drop 1).take 2)
 have u3 := unbe_lt (((l.drop 1).drop 2).take 1)
 rw [List.length_take, Nat.min_eq_left hl1] at u1
 rw [List.length_take, Nat.min_eq_left hl2] at u2
 rw [List.length_take, Nat.min_eq_left hl3] at u3
 refine ⟨by trivial, h4, ?_, ⟨by dsimp only; omega, by dsimp only; omega, by dsimp only; omega⟩⟩
 unfold YE keyB
 dsimp only
 rw [b2, tB_nat, tB_nat]
 have c1 : ∀ X : List UInt8, UInt8.ofNat (Xc (List.take 1 l)) :: X = List.take 1 l ++ X := fun X => by
  show [UInt8.ofNat (Xc (List.take 1 l))] ++ X = _
  rw [b1]
 rw [c1, b3]
 simp only [List.append_assoc, List.take_append_drop]
theorem manyTo_ok {α : Type} {f : List UInt8 → Int → Bool → α × Yo} {enc : α → List UInt8} {fit : α → Prop} (hf : ∀ {l l' : List UInt8} {st : Int} {bad : Bool} {x : α}, f l st bad = (x, l', 0, false) → st = 0 ∧ bad = false ∧ l = enc x ++ l' ∧ fit x) :
  ∀ {n : Nat} {l l' : List UInt8} {st : Int} {bad : Bool} {xs : List α}, Xp f n l st bad = (xs, l', 0, false) → st = 0 ∧ bad = false ∧ xs.length = n ∧ l = xs.flatMap enc ++ l' ∧ ∀ x ∈ xs, fit x
 | 0, l, l', st, bad, xs, h => by
  rw [Xp] at h
  simp only [Prod.mk.injEq] at h
  obtain ⟨rfl, rfl, rfl, rfl⟩ := h
  exact ⟨rfl, rfl, rfl, by simp, by simp⟩
 | n + 1, l, l', st, bad, xs, h => by
  rw [Xp] at h
  split at h
  ·simp only [Prod.mk.injEq] at h
   obtain ⟨h1, h2⟩ := h
   have key : Xp f n (f l st bad).2.1 (f l st bad).2.2.1 (f l st bad).2.2.2 = ((Xp f n (f l st bad).2.1 (f l st bad).2.2.1 (f l st bad).2.2.2).1, l', 0, false) := by rw [← h2]
   obtain ⟨g1, g2, g3, g4, g5⟩ := manyTo_ok hf key
   obtain ⟨k1, k2, k3, k4⟩ := hf (show f l st bad = ((f l st bad).1, (f l st bad).2.1, 0, false) by rw [← g1, ← g2])
   subst h1
   refine ⟨k1, k2, by simp [g3], ?_, ?_⟩
   ·rw [List.flatMap_cons, List.append_assoc, ← g4]; exact k3
   ·intro x hx
    rcases List.mem_cons.1 hx with rfl | hx
    ·exact k4
    ·exact g5 x hx
  ·rename_i hok
   simp only [Prod.mk.injEq] at h
   obtain ⟨_, _, h3, h4⟩ := h
   exact absurd (by rw [h4, h3]; rfl) hok
theorem manyR_ok {α : Type} {f : List UInt8 → Int → Bool → α × Yo} {enc : α → List UInt8} {fit : α → Prop} (hf : ∀ {l l' : List UInt8} {st : Int} {bad : Bool} {x : α}, f l st bad = (x, l', 0, false) → st = 0 ∧ bad = false ∧ l = enc x ++ l' ∧ fit x)
  {l l' : List UInt8} {st : Int} {bad : Bool} {xs : List α} (h : YW f l st bad = (xs, l', 0, false)) : st = 0 ∧ bad = false ∧ l = UInt8.ofNat xs.length :: xs.flatMap enc ++ l' ∧ ∀ x ∈ xs, fit x := by
 unfold YW at h
 obtain ⟨g1, g2, g3, g4, g5⟩ := manyTo_ok hf h
 obtain ⟨rfl, hl, e⟩ := Wb g1
 obtain ⟨k1, _⟩ := needB_false g2 g1
 rw [e] at g3 g4
 dsimp only at g3 g4
 refine ⟨rfl, k1, ?_, g5⟩
 have b1 := be_take hl
 rw [be_one, ← g3] at b1
 rw [show UInt8.ofNat xs.length :: xs.flatMap enc ++ l' = [UInt8.ofNat xs.length] ++ (xs.flatMap enc ++ l') from rfl, b1, ← g4, List.take_append_drop]
structure ContFit (c : XQ) : Prop where
 row : ∀ r ∈ c.rows, YC r
 kid : ∀ k ∈ c.kids, KidFit k
theorem contentR_ok {l l' : List UInt8} {c : XQ} (h : YK l = (c, l', 0, false)) : ZQ c = true ∧ l = Ys c ++ l' ∧ ContFit c := by
 unfold YK contE at h
 simp only [Prod.mk.injEq] at h
 obtain ⟨h1, h2, h3, h4⟩ := h
 generalize hm : WD (Yk 1 l 0).1 (Yk 1 l 0).2.1 (Yk 1 l 0).2.2 (Xi false (Yk 1 l 0).2.2 (decide (((Yk 1 l 0).1 : Int) ≤ 2))) = m at *
 obtain ⟨⟨rows, kids⟩, l2, st2, b2⟩ := m
 dsimp only at h1 h2 h3 h4
 subst h2; subst h3; subst h1
 obtain ⟨rfl, hok⟩ := needB_false h4 rfl
 refine ⟨hok, ?_⟩
 unfold WD at hm
 have hF := We hok
 have hkind := hF.kind
 dsimp only at hkind
 split at hm
 ·rename_i hokk
  rw [Bool.and_eq_true, Bool.not_eq_true'] at hokk
  obtain ⟨_, hs1⟩ := hokk
  have hs1 := of_decide_eq_true hs1
  obtain ⟨_, hl1, e1⟩ := Wb hs1
  have b1 := be_take hl1
  rw [be_one] at b1
  rw [e1] at hm hkind hok ⊢
  dsimp only at hm hkind hok ⊢
  generalize hx : Xc (List.take 1 l) = x at *
  have hl : l = UInt8.ofNat x :: l.drop 1 := by
   have : l = l.take 1 ++ l.drop 1 := (List.take_append_drop 1 l).symm
   rw [← b1] at this
   exact this
  split at hm
  ·rename_i hx1
   simp only [Prod.mk.injEq] at hm
   obtain ⟨⟨h1, h2⟩, h3⟩ := hm
   subst h2
   have key : YW XL (l.drop 1) 0 (Xi false 0 (decide ((x : Int) ≤ 2))) = (rows, l2, 0, false) := by rw [← h1, ← h3]
   obtain ⟨_, _, g3, g4⟩ := manyR_ok (enc := ZY) (fit := YC) (fun h => ⟨(rowR_ok h).1, (rowR_ok h).2.1, (rowR_ok h).2.2.2.1, (rowR_ok h).2.2.2.2⟩) key
   refine ⟨?_, ⟨g4, by simp⟩⟩
   have hc : Ys ⟨x, rows, []⟩ = UInt8.ofNat x :: (UInt8.ofNat rows.length :: rows.flatMap ZY) := by
    unfold Ys cntB
    rw [if_neg (by dsimp only; omega), tB_nat]; simp
   rw [hc, hl, g3]; rfl
  ·split at hm
   ·rename_i hx1 hx2
    simp only [Prod.mk.injEq] at hm
    obtain ⟨⟨h1, h2⟩, h3⟩ := hm
    subst h1
    have key : YW Xy (l.drop 1) 0 (Xi false 0 (decide ((x : Int) ≤ 2))) = (kids, l2, 0, false) := by rw [← h2, ← h3]
    obtain ⟨_, _, g3, g4⟩ := manyR_ok (enc := YE) (fit := KidFit) (fun h => kidRB_ok h) key
    refine ⟨?_, ⟨by simp, g4⟩⟩
    have hc : Ys ⟨x, [], kids⟩ = UInt8.ofNat x :: (UInt8.ofNat kids.length :: kids.flatMap YE) := by
     unfold Ys cntB
     rw [if_neg (by dsimp only; omega), tB_nat]; simp
    rw [hc, hl, g3]; rfl
   ·rename_i hx1 hx2
    simp only [Prod.mk.injEq] at hm
    obtain ⟨⟨h1, h2⟩, h3, _⟩ := hm
    subst h1; subst h2; subst h3
    have hx0 : (x : Int) = 0 := by
     rcases hkind with h | h | h
     ·exact h.1
     ·exact absurd (by omega) hx1
     ·exact absurd (by omega) hx2
    refine ⟨?_, ⟨by simp, by simp⟩⟩
    have hc : Ys ⟨x, [], []⟩ = [UInt8.ofNat x] := by
     unfold Ys cntB
     rw [if_pos hx0, tB_nat]; simp
    rw [hc]; exact hl
 ·rename_i hokk
  simp only [Prod.mk.injEq] at hm
  obtain ⟨⟨h1, h2⟩, h3, h4, h5⟩ := hm
  exact absurd (by rw [h5, h4]; rfl) hokk
theorem takenE_zero {bad : Bool} {st : Int} (h : XD bad st = 0) : bad = false ∧ st = 0 := by
 cases bad
 ·exact ⟨rfl, h⟩
 ·simp [XD] at h
theorem takeRow_ok {l : List UInt8} (h : (Ym l).2.2 = 0) : ∃ n : Nat, (Ym l).2.1 = n ∧ n ≤ l.length ∧ Yy (Ym l).1 = true ∧ ZY (Ym l).1 = l.take n ∧ YC (Ym l).1 := by
 unfold Ym at h ⊢
 dsimp only at h ⊢
 obtain ⟨hb, hs⟩ := takenE_zero h
 generalize hr : XL l 0 false = r at *
 obtain ⟨x, l', st, bad⟩ := r
 dsimp only at hb hs
 subst hb; subst hs
 obtain ⟨_, _, g1, g2, g3⟩ := rowR_ok hr
 have hl := congrArg List.length g2
 simp only [List.length_append] at hl
 refine ⟨(ZY x).length, ?_, by omega, ?_⟩
 ·simp [Ww]; omega
 ·simp only [Bool.false_or, ne_eq, not_true_eq_false, decide_false, Bool.false_eq_true, if_false]
  exact ⟨g1, by rw [g2]; simp, g3⟩
theorem takeCont_ok {l : List UInt8} (h : (ZA l).2.2 = 0) : ∃ n : Nat, (ZA l).2.1 = n ∧ n ≤ l.length ∧ ZQ (ZA l).1 = true ∧ Ys (ZA l).1 = l.take n ∧ ContFit (ZA l).1 := by
 unfold ZA at h ⊢
 dsimp only at h ⊢
 obtain ⟨hb, hs⟩ := takenE_zero h
 generalize hr : YK l = r at *
 obtain ⟨x, l', st, bad⟩ := r
 dsimp only at hb hs
 subst hb; subst hs
 obtain ⟨g1, g2, g3⟩ := contentR_ok hr
 have hl := congrArg List.length g2
 simp only [List.length_append] at hl
 refine ⟨(Ys x).length, ?_, by omega, ?_⟩
 ·simp [Ww]; omega
 ·simp only [Bool.false_or, ne_eq, not_true_eq_false, decide_false, Bool.false_eq_true, if_false]
  exact ⟨g1, by rw [g2]; simp, g3⟩
theorem takeCont_bad {l : List UInt8} (h : (ZA l).2.2 ≠ 0) : (ZA l).1 = ⟨0, [], []⟩ ∧ (ZA l).2.1 = 0 := by
 unfold ZA at h ⊢
 dsimp only at h ⊢
 generalize YK l = r at *
 obtain ⟨x, l', st, bad⟩ := r
 dsimp only at h ⊢
 cases bad
 ·have hs : st ≠ 0 := h
  simp [Ww, hs]
 ·simp [Ww]
theorem contB_len {c : XQ} (h : ZQ c = true) : (Ys c).length ≤ 82 := by
 have hF := We h
 have h1 := YH ZY 20 c.rows (fun x hx => rowB_le (hF.row x hx))
 have h2 := YH YE 4 c.kids (fun x hx => Nat.le_of_eq (kidB_len x))
 have h3 : (cntB c).length ≤ 1 := by unfold cntB; split <;> simp
 have hk := hF.kind
 have hrl := hF.rl
 have hkl := hF.kl
 simp only [Ys, List.length_cons, List.length_append]
 have er : c.rows = [] → (c.rows.flatMap ZY).length = 0 := fun e => by rw [e]; rfl
 have ek : c.kids = [] → (c.kids.flatMap YE).length = 0 := fun e => by rw [e]; rfl
 rcases hk with ⟨_, hr, hk⟩ | ⟨_, hk⟩ | ⟨_, hr, _⟩
 ·have := er hr; have := ek hk; omega
 ·have := ek hk; omega
 ·have := er hr; omega
theorem XI {k : Nat} {x rest : List UInt8} (h : x.length = k) : Yk k (x ++ rest) 0 = (Xc x, rest, 0) := by
 unfold Yk
 rw [if_neg (by simp), if_neg (by simp; omega), List.take_left' h, List.drop_left' h]
theorem unbe_one (b : UInt8) : Xc [b] = b.toNat := by simp [Xc]
theorem tB_toNat {t : Int} (h0 : 0 ≤ t) (h1 : t < 256) : ((tB t).toNat : Int) = t := by
 obtain ⟨n, rfl⟩ : ∃ n : Nat, t = n := ⟨t.toNat, by omega⟩
 simp only [tB, Int.toNat_natCast, UInt8.toNat_ofNat']
 have e : (2 : Nat) ^ 8 = 256 := by decide
 rw [e]; omega
theorem rowR_back {r : Row} (hr : Yy r = true) (hf : YC r) (rest : List UInt8) : XL (ZY r ++ rest) 0 false = (r, rest, 0, false) := by
 obtain ⟨h0, h3, h8⟩ := rowOk_iff hr
 obtain ⟨hid, hval⟩ := hf
 obtain ⟨t, id, val, note⟩ := r
 dsimp only at h0 h3 h8 hid hval
 have e0 : ZY ⟨t, id, val, note⟩ ++ rest = [tB t] ++ (be 2 id ++ (be 8 (vN val) ++ ([UInt8.ofNat note.length] ++ (note ++ rest)))) := by simp [ZY, keyB]
 have e1 : Yk 1 (ZY ⟨t, id, val, note⟩ ++ rest) 0 = ((tB t).toNat, be 2 id ++ (be 8 (vN val) ++ ([UInt8.ofNat note.length] ++ (note ++ rest))), 0) := by rw [e0, XI (k := 1) (x := [tB t]) rfl, unbe_one]
 have e2 := XI (k := 2) (x := be 2 id) (rest := be 8 (vN val) ++ ([UInt8.ofNat note.length] ++ (note ++ rest))) (ZF _ _)
 have e3 := XI (k := 8) (x := be 8 (vN val)) (rest := [UInt8.ofNat note.length] ++ (note ++ rest)) (ZF _ _)
 have e4 := XI (k := 1) (x := [UInt8.ofNat note.length]) (rest := note ++ rest) rfl
 rw [unbe_be, Nat.mod_eq_of_lt (by omega)] at e2
 rw [unbe_be, Nat.mod_eq_of_lt (by have := vN_lt val; omega)] at e3
 have hlen : (UInt8.ofNat note.length).toNat = note.length := by
  rw [UInt8.toNat_ofNat']
  have e : (2 : Nat) ^ 8 = 256 := by decide
  rw [e]; omega
 rw [unbe_one, hlen] at e4
 have e5 : Wo note.length (note ++ rest) 0 = (note, rest, 0) := by
  unfold Wo
  rw [if_neg (by simp), if_neg (by simp), List.take_left' rfl, List.drop_left' rfl]
 have ht := tB_toNat h0 (by omega : t < 256)
 unfold XL
 simp only [e1, e2, e3, e4, e5]
 have hb1 : Xi false 0 (decide (((tB t).toNat : Int) < 3)) = false := by rw [ht, decide_eq_true h3]; rfl
 have hb2 : Xi false 0 (decide ((note.length : Int) ≤ 8)) = false := by rw [decide_eq_true (by omega)]; rfl
 simp only [hb1, hb2, Bool.not_false, decide_true, Bool.and_self, if_true]
 rw [ht, i64N_vN hval]
theorem kidRB_back {k : Kid} (hid : k.id < 65536) (ht : 0 ≤ k.t ∧ k.t < 3) (hp : 0 < k.page ∧ k.page < 64) (rest : List UInt8) : Xy (YE k ++ rest) 0 false = (k, rest, 0, false) := by
 obtain ⟨t, id, page⟩ := k
 dsimp only at hid ht hp
 have e0 : YE ⟨t, id, page⟩ ++ rest = [tB t] ++ (be 2 id ++ ([tB page] ++ rest)) := by simp [YE, keyB]
 have e1 : Yk 1 (YE ⟨t, id, page⟩ ++ rest) 0 = ((tB t).toNat, be 2 id ++ ([tB page] ++ rest), 0) := by rw [e0, XI (k := 1) (x := [tB t]) rfl, unbe_one]
 have e2 := XI (k := 2) (x := be 2 id) (rest := [tB page] ++ rest) (ZF _ _)
 have e3 := XI (k := 1) (x := [tB page]) (rest := rest) rfl
 rw [unbe_be, Nat.mod_eq_of_lt (by omega)] at e2
 rw [unbe_one] at e3
 unfold Xy kidR
 simp only [e1, e2, e3, tB_toNat ht.1 (by omega : t < 256), tB_toNat (by omega : 0 ≤ page) (by omega : page < 256)]
theorem manyTo_back {α : Type} {f : List UInt8 → Int → Bool → α × Yo} {enc : α → List UInt8} : ∀ (xs : List α), (∀ x ∈ xs, ∀ rest, f (enc x ++ rest) 0 false = (x, rest, 0, false)) → ∀ rest, Xp f xs.length (xs.flatMap enc ++ rest) 0 false = (xs, rest, 0, false)
 | [], _, rest => rfl
 | x :: xs, h, rest => by
  rw [List.length_cons, Xp, if_pos (by decide), List.flatMap_cons, List.append_assoc, h x (by simp)]
  dsimp only
  rw [manyTo_back xs (fun y hy => h y (by simp [hy]))]
theorem manyR_back {α : Type} {f : List UInt8 → Int → Bool → α × Yo} {enc : α → List UInt8} {xs : List α} (hl : xs.length ≤ 4) (h : ∀ x ∈ xs, ∀ rest, f (enc x ++ rest) 0 false = (x, rest, 0, false)) (rest : List UInt8) :
  YW f (UInt8.ofNat xs.length :: (xs.flatMap enc ++ rest)) 0 false = (xs, rest, 0, false) := by
 have hlen : (UInt8.ofNat xs.length).toNat = xs.length := by
  rw [UInt8.toNat_ofNat']
  have e : (2 : Nat) ^ 8 = 256 := by decide
  rw [e]; omega
 have e1 : Yk 1 (UInt8.ofNat xs.length :: (xs.flatMap enc ++ rest)) 0 = (xs.length, xs.flatMap enc ++ rest, 0) := by
  have := XI (k := 1) (x := [UInt8.ofNat xs.length]) (rest := xs.flatMap enc ++ rest) rfl
  rw [unbe_one, hlen] at this
  exact this
 unfold YW
 simp only [e1]
 have hb : Xi false 0 (decide ((xs.length : Int) ≤ 4)) = false := by rw [decide_eq_true (by omega)]; rfl
 rw [hb]
 exact manyTo_back xs h rest
structure IdFit (c : XQ) : Prop where
 row : ∀ r ∈ c.rows, YC r
 kid : ∀ k ∈ c.kids, k.id < 65536
theorem contB_form {c : XQ} (h : ZQ c = true) : (c.kind = 0 ∧ c = ⟨0, [], []⟩ ∧ Ys c = [0]) ∨ (c.kind = 1 ∧ c.kids = [] ∧ Ys c = 1 :: (UInt8.ofNat c.rows.length :: c.rows.flatMap ZY)) ∨ (c.kind = 2 ∧ c.rows = [] ∧ Ys c = 2 :: (UInt8.ofNat c.kids.length :: c.kids.flatMap YE)) := by
 have hF := (We h).kind
 obtain ⟨kind, rows, kids⟩ := c
 dsimp only at hF ⊢
 rcases hF with ⟨rfl, rfl, rfl⟩ | ⟨rfl, rfl⟩ | ⟨rfl, rfl, _⟩
 ·exact .inl ⟨rfl, rfl, by simp [Ys, cntB]; rfl⟩
 ·exact .inr (.inl ⟨rfl, rfl, by simp [Ys, cntB]; rfl⟩)
 ·exact .inr (.inr ⟨rfl, rfl, by simp [Ys, cntB]; rfl⟩)
theorem contentR_back {c : XQ} (h : ZQ c = true) (hf : IdFit c) (rest : List UInt8) : YK (Ys c ++ rest) = (c, rest, 0, false) := by
 have hF := We h
 have hrb : ∀ r ∈ c.rows, ∀ rest, XL (ZY r ++ rest) 0 false = (r, rest, 0, false) := fun r hr rest => rowR_back (hF.row r hr) (hf.row r hr) rest
 have hkb : ∀ k ∈ c.kids, ∀ rest, Xy (YE k ++ rest) 0 false = (k, rest, 0, false) := fun k hk rest => kidRB_back (hf.kid k hk) (hF.kid k hk).1 (hF.kid k hk).2 rest
 have hrl := hF.rl
 have hkl := hF.kl
 rcases contB_form h with ⟨hk, rfl, e⟩ | ⟨hk, hks, e⟩ | ⟨hk, hrs, e⟩
 ·rw [e]
  have e1 : Yk 1 ([0] ++ rest) 0 = (0, rest, 0) := by rw [XI (k := 1) (x := [0]) rfl]; rfl
  unfold YK contE
  simp only [e1]
  rfl
 ·obtain ⟨kind, rows, kids⟩ := c
  dsimp only at hk hks
  subst hk; subst hks
  rw [e]
  have e1 : Yk 1 (1 :: (UInt8.ofNat rows.length :: rows.flatMap ZY) ++ rest) 0 = (1, UInt8.ofNat rows.length :: (rows.flatMap ZY ++ rest), 0) := by
   have := XI (k := 1) (x := [1]) (rest := UInt8.ofNat rows.length :: (rows.flatMap ZY ++ rest)) rfl
   exact this
  have hb : Xi false 0 (decide (((1 : Nat) : Int) ≤ 2)) = false := rfl
  unfold YK contE
  simp only [e1, hb, WD, manyR_back hrl hrb rest, Bool.not_false, decide_true, Bool.and_self, if_true]
  have hn : Xi false 0 (ZQ ⟨((1 : Nat) : Int), rows, []⟩) = false := by rw [show ZQ ⟨((1 : Nat) : Int), rows, []⟩ = true from h]; rfl
  rw [hn]; rfl
 ·obtain ⟨kind, rows, kids⟩ := c
  dsimp only at hk hrs
  subst hk; subst hrs
  rw [e]
  have e1 : Yk 1 (2 :: (UInt8.ofNat kids.length :: kids.flatMap YE) ++ rest) 0 = (2, UInt8.ofNat kids.length :: (kids.flatMap YE ++ rest), 0) := by
   have := XI (k := 1) (x := [2]) (rest := UInt8.ofNat kids.length :: (kids.flatMap YE ++ rest)) rfl
   exact this
  have hb : Xi false 0 (decide (((2 : Nat) : Int) ≤ 2)) = false := rfl
  unfold YK contE
  simp only [e1, hb, WD, manyR_back hkl hkb rest, Bool.not_false, decide_true, Bool.and_self, if_true, show ¬ ((2 : Nat) = 1) by decide, if_false]
  have hn : Xi false 0 (ZQ ⟨((2 : Nat) : Int), [], kids⟩) = false := by rw [show ZQ ⟨((2 : Nat) : Int), [], kids⟩ = true from h]; rfl
  rw [hn]; rfl
theorem takeCont_back {c : XQ} (h : ZQ c = true) (hf : IdFit c) (rest : List UInt8) : ZA (Ys c ++ rest) = (c, (((Ys c).length : Nat) : Int), 0) := by
 unfold ZA
 simp only [contentR_back h hf rest]
 simp [Ww, XD]
theorem takeRow_back {r : Row} (h : Yy r = true) (hf : YC r) (rest : List UInt8) : Ym (ZY r ++ rest) = (r, (((ZY r).length : Nat) : Int), 0) := by
 unfold Ym
 simp only [rowR_back h hf rest]
 simp [Ww, XD]
theorem YN (ρ : Hp) (n : Int) : Spec Tryz.prog 243 [.int .i64 n] ρ [] (fun v ρ' L' => v = .bool (decide (0 ≤ n ∧ n < 3)) ∧ ρ' = ρ ∧ L' = []) := by
 refine Zf Tryz.func243 rfl rfl rfl fun u R => ?_
 simp only [Zx, List.cons_append, List.nil_append]
 by_cases h0 : 0 ≤ n
 ·by_cases h1 : n < 3
  ·rw [decide_eq_true ⟨h0, h1⟩]
   repeat' (first | (refine Zj ?_; first | (refine Zg ?_; refine qQ ?_) | refine Zl ?_) | refine Za ?_ | (refine Zi ?_; refine Zq ?_) | (refine Zh ?_; refine Zp ?_) | intro _)
   exact qE ⟨rfl, rfl, rfl⟩
  ·rw [decide_eq_false (fun h => h1 h.2)]
   repeat' (first | (refine Zj ?_; first | (refine Zg ?_; refine qQ ?_) | refine Zl ?_) | refine Za ?_ | (refine Zi ?_; refine Zq ?_) | (refine Zh ?_; refine Zp ?_) | intro _)
   exact qE ⟨rfl, rfl, rfl⟩
 ·rw [decide_eq_false (fun h => h0 h.1)]
  repeat' (first | (refine Zj ?_; first | (refine Zg ?_; refine qQ ?_) | refine Zl ?_) | refine Za ?_ | (refine Zi ?_; refine Zq ?_) | (refine Zh ?_; refine Zp ?_) | intro _)
  exact qE ⟨rfl, rfl, rfl⟩
theorem YG (ρ : Hp) (t : Int) (id : Nat) (h0 : 0 ≤ t) (h3 : t < 3) (hid : id < 65536) : Spec Tryz.prog 281 [.agg ⟨keyV t id⟩] ρ [] (fun v ρ' L' => v = .int .i64 (t * 65536 + id) ∧ ρ' = ρ ∧ L' = []) := by
 refine Zf Tryz.func281 rfl rfl rfl fun u R => ?_
 simp only [Zx, List.cons_append, List.nil_append]
 repeat' (first | (refine Zj ?_; first | (refine Zg ?_; refine qQ ?_) | refine Zl ?_) | refine Za ?_ | (refine Zi ?_; refine Zq ?_) | (refine Zh ?_; refine Zp ?_) | intro _)
 exact qE ⟨rfl, rfl, rfl⟩
theorem order_lt {t1 t2 : Int} {i1 i2 : Nat} (h1 : i1 < 65536) (h2 : i2 < 65536) : cmpK t1 i1 t2 i2 < 0 ↔ t1 * 65536 + i1 < t2 * 65536 + i2 := by
 rw [cmpK_lt]; omega
theorem Wj (ρ : Hp) (r : Row) : Spec Tryz.prog 247 [.agg ⟨YY r⟩] ρ [] (fun v ρ' L' => v = .bool (Yy r) ∧ ρ' = ρ ∧ L' = []) := by
 obtain ⟨t, id, val, note⟩ := r
 refine Zf Tryz.func247 rfl rfl rfl fun u R => ?_
 simp only [Zx, List.cons_append, List.nil_append, Yy]
 by_cases h1 : 0 ≤ t ∧ t < 3
 ·have hd : decide (0 ≤ t ∧ t < 3) = true := decide_eq_true h1
  by_cases h2 : note.length ≤ 8
  ·rw [decide_eq_true ⟨h1, h2⟩]
   repeat' (first | (refine Zc (.func 243) ?_; refine qC rfl rfl (YN _ _) ?_; rintro v ρ' L' hle ⟨rfl, rfl, rfl⟩ <;> (try simp only [kM, kN, kO, hd])) | (refine Zj ?_; first | (refine Zg ?_; refine qQ ?_) | refine Zl ?_) | refine Za ?_ | (refine Zi ?_; refine Zq ?_) | (refine Zh ?_; refine Zp ?_) | intro _)
   exact qE ⟨rfl, rfl, rfl⟩
  ·rw [decide_eq_false (fun h => h2 h.2)]
   repeat' (first | (refine Zc (.func 243) ?_; refine qC rfl rfl (YN _ _) ?_; rintro v ρ' L' hle ⟨rfl, rfl, rfl⟩ <;> (try simp only [kM, kN, kO, hd])) | (refine Zj ?_; first | (refine Zg ?_; refine qQ ?_) | refine Zl ?_) | refine Za ?_ | (refine Zi ?_; refine Zq ?_) | (refine Zh ?_; refine Zp ?_) | intro _)
   exact qE ⟨rfl, rfl, rfl⟩
 ·have hd : decide (0 ≤ t ∧ t < 3) = false := decide_eq_false h1
  rw [decide_eq_false (fun h => h1 h.1)]
  repeat' (first | (refine Zc (.func 243) ?_; refine qC rfl rfl (YN _ _) ?_; rintro v ρ' L' hle ⟨rfl, rfl, rfl⟩ <;> (try simp only [kM, kN, kO, hd])) | (refine Zj ?_; first | (refine Zg ?_; refine qQ ?_) | refine Zl ?_) | refine Za ?_ | (refine Zi ?_; refine Zq ?_) | (refine Zh ?_; refine Zp ?_) | intro _)
  exact qE ⟨rfl, rfl, rfl⟩
theorem risesB_split {α : Type} {most : Nat} {right : Nat → α → Bool} {lt : α → α → Bool} {l : List α} : ∀ k, ZH most right lt l k = (decide (l.length ≤ most) && ZH l.length right lt l k)
 | 0 => by simp [ZH]
 | k + 1 => by rw [ZH, risesB_split k, ZH, Bool.and_assoc]
theorem rowsR_spec (ρ : Hp) (a : Option Addr) (n c : Nat) (l : List Row) (h : AIn ρ 4 YY a n l) (hn : n ≤ 1000000) (hid : ∀ r ∈ l, r.id < 65536) :
  Spec Tryz.prog 245 [.slice a n c] ρ [] (fun v ρ' L' => v = .bool (rowsOk l) ∧ ρ' = ρ ∧ L' = []) := by
 have hl := h.len
 unfold rowsOk
 rw [risesB_split, hl]
 refine Zf Tryz.func245 rfl rfl rfl fun u R => ?_
 simp only [Zx, List.cons_append, List.nil_append]
 generalize hrt : (fun (_ : Nat) (r : Row) => Yy r) = rt
 repeat' (first | (refine Zj ?_; first | (refine Zg ?_; refine qQ ?_) | refine Zl ?_) | refine Za ?_ | (refine Zi ?_; refine Zq ?_) | (refine Zh ?_; refine Zp ?_) | intro _)
 refine Zy [(0, _), (2, _), (5, _), (6, _)] (fun (ζ : (Nat)) => [(7, .int .i64 ζ)]) (fun (ζ : (Nat)) => ρ) (fun (ζ : (Nat)) => []) (fun (ζ : (Nat)) => ζ ≤ n ∧ ZH n rt ltR l ζ = true) (fun (ζ : (Nat)) => n - ζ) (0) (⟨Nat.zero_le _, by rw [ZH, hl]; exact decide_eq_true (Nat.le_refl _)⟩) Zk Zk rfl tk ?_
 rintro k hI
 try simp only [List.cons_append, List.nil_append, List.append_assoc, List.append_eq] at hI ⊢
 try dsimp only at hI ⊢
 obtain ⟨hk, hok⟩ := hI
 by_cases hlt : k < n
 ·obtain ⟨b, off, C, T, fr, rfl, hb, hfit, hc⟩ := h.get (show k < l.length by omega)
  have hs := YZ (most := n) (right := rt) (lt := ltR) (show k < l.length by omega)
  rw [hok, Bool.true_and] at hs
  have hrk : rt k (l[k]'(by omega)) = Yy (l[k]'(by omega)) := by rw [← hrt]
  rw [hrk] at hs
  have hfin := fun (e : ZH n rt ltR l (k + 1) = false) => YO e (show k + 1 ≤ n by omega)
  have hmem : l[k]'(by omega) ∈ l := List.getElem_mem _
  have hidk := hid _ hmem
  cases hx : Yy (l[k]'(by omega))
  ·rw [hx, Bool.false_and] at hs
   rw [hfin hs, Bool.and_false]
   generalize l[k]'(by omega) = x at *
   repeat' (first | (refine Zj ?_; first | (refine Zg ?_; refine qQ ?_) | refine Zl ?_) | refine Za ?_ | (refine Zi ?_; refine Zq ?_) | (refine Zh ?_; refine Zp ?_) | intro _)
   refine ZI (Zv _ _ _) ZC ?_
   all_goals refine Yr 0 ?_
   all_goals (refine Zt (i := 1) ?_; ((try refine Zr ?_); (first | (refine Zc (.func 247) ?_; refine qC rfl rfl (Wj _ x) ?_; rintro v ρ' L' hle ⟨rfl, rfl, rfl⟩ <;> (try simp only [kM, kN, kO, hx])) | (refine Zl ?_; try intro _)) <;> ((try simp only [kM, kN, kO]); refine Za ?_; refine Zs ?_)))
   all_goals (refine rUn 2 ?_; refine Ye 3 ?_; (first | refine Zd 4 ?_ | refine Zb 4 ?_ | refine ZT 4 ?_); (first | refine Zd 5 ?_ | refine Zb 5 ?_ | refine wCm 5 ?_); (first | refine Zd 6 ?_ | refine Zb 6 ?_ | refine ZT 6 ?_); (first | refine Zd 7 ?_ | refine Zb 7 ?_ | refine ZT 7 ?_); (first | refine Zd 8 ?_ | refine Zb 8 ?_ | refine ZT 8 ?_); (first | refine Zd 9 ?_ | refine Zb 9 ?_ | refine wSb 9 ?_); (first | refine Zd 10 ?_ | refine Zb 10 ?_ | refine wIa 10 ?_); (first | refine Zd 11 ?_ | refine Zb 11 ?_ | refine wFa 11 ?_); (first | refine Zd 12 ?_ | refine Zb 12 ?_ | refine wLd 12 ?_); (first | refine Zd 14 ?_ | refine Zb 14 ?_ | refine wFa 14 ?_); (first | refine Zd 15 ?_ | refine Zb 15 ?_ | refine wLd 15 ?_))
   all_goals (first | refine Zd 13 ?_ | refine Zb 13 ?_ | (refine Zt (i := 13) ?_; ((try refine Zr ?_); (first | (refine Zl ?_; try intro _)) <;> ((try simp only [kM, kN, kO]); refine Za ?_; refine Zs ?_))))
   all_goals (first | refine Zd 16 ?_ | refine Zb 16 ?_ | (refine Zt (i := 16) ?_; ((try refine Zr ?_); (first | (refine Zl ?_; try intro _)) <;> ((try simp only [kM, kN, kO]); refine Za ?_; refine Zs ?_))))
   all_goals (refine Yi ?_; (first | refine Zd 17 ?_ | refine Zb 17 ?_ | refine wCm 17 ?_); (first | refine Zd 18 ?_ | refine Zb 18 ?_ | refine wPk 18 ?_); refine rPk 19 ?_; refine ZP ?_)
   repeat' (first | (refine Zj ?_; first | (refine Zg ?_; refine qQ ?_) | refine Zl ?_) | refine Za ?_ | (refine Zi ?_; refine Zq ?_) | (refine Zh ?_; refine Zp ?_) | intro _)
   exact qE ⟨rfl, rfl, rfl⟩
  ·rw [hx, Bool.true_and] at hs
   by_cases hk0 : k = 0
   ·have hs' : ZH n rt ltR l (k + 1) = true := by rw [hs]; simp [hk0]
    generalize l[k]'(by omega) = x at *
    repeat' (first | (refine Zj ?_; first | (refine Zg ?_; refine qQ ?_) | refine Zl ?_) | refine Za ?_ | (refine Zi ?_; refine Zq ?_) | (refine Zh ?_; refine Zp ?_) | intro _)
    refine ZI (Zv _ _ _) ZC ?_
    all_goals refine Yr 0 ?_
    all_goals (refine Zt (i := 1) ?_; ((try refine Zr ?_); (first | (refine Zc (.func 247) ?_; refine qC rfl rfl (Wj _ x) ?_; rintro v ρ' L' hle ⟨rfl, rfl, rfl⟩ <;> (try simp only [kM, kN, kO, hx])) | (refine Zl ?_; try intro _)) <;> ((try simp only [kM, kN, kO]); refine Za ?_; refine Zs ?_)))
    all_goals (refine rUn 2 ?_; refine Ye 3 ?_; (first | refine Zd 4 ?_ | refine Zb 4 ?_ | refine ZT 4 ?_); (first | refine Zd 5 ?_ | refine Zb 5 ?_ | refine wCm 5 ?_); (first | refine Zd 6 ?_ | refine Zb 6 ?_ | refine ZT 6 ?_); (first | refine Zd 7 ?_ | refine Zb 7 ?_ | refine ZT 7 ?_); (first | refine Zd 8 ?_ | refine Zb 8 ?_ | refine ZT 8 ?_); (first | refine Zd 9 ?_ | refine Zb 9 ?_ | refine wSb 9 ?_); (first | refine Zd 10 ?_ | refine Zb 10 ?_ | refine wIa 10 ?_); (first | refine Zd 11 ?_ | refine Zb 11 ?_ | refine wFa 11 ?_); (first | refine Zd 12 ?_ | refine Zb 12 ?_ | refine wLd 12 ?_); (first | refine Zd 14 ?_ | refine Zb 14 ?_ | refine wFa 14 ?_); (first | refine Zd 15 ?_ | refine Zb 15 ?_ | refine wLd 15 ?_))
    all_goals (first | refine Zd 13 ?_ | refine Zb 13 ?_ | (refine Zt (i := 13) ?_; ((try refine Zr ?_); (first | (refine Zl ?_; try intro _)) <;> ((try simp only [kM, kN, kO]); refine Za ?_; refine Zs ?_))))
    all_goals (first | refine Zd 16 ?_ | refine Zb 16 ?_ | (refine Zt (i := 16) ?_; ((try refine Zr ?_); (first | (refine Zl ?_; try intro _)) <;> ((try simp only [kM, kN, kO]); refine Za ?_; refine Zs ?_))))
    all_goals (refine Yi ?_; (first | refine Zd 17 ?_ | refine Zb 17 ?_ | refine wCm 17 ?_); (first | refine Zd 18 ?_ | refine Zb 18 ?_ | refine wPk 18 ?_); refine rPk 19 ?_; refine ZP ?_)
    repeat' (first | (refine Zj ?_; first | (refine Zg ?_; refine qQ ?_) | refine Zl ?_) | refine Za ?_ | (refine Zi ?_; refine Zq ?_) | (refine Zh ?_; refine Zp ?_) | intro _)
    refine Zo (k + 1) (⟨hlt, hs'⟩) Zk Zk rfl tk inferInstance (by first | omega | (dsimp only; omega))
   ·have hd : decide (k = 0) = false := decide_eq_false hk0
    rw [hd, Bool.false_or] at hs
    obtain ⟨b2, off2, C2, T2, fr2, f1, hb2, hfit2, hc2⟩ := h.get (show k - 1 < l.length by omega)
    cases f1
    rw [hb] at hb2
    cases hb2
    have ek : ((k : Int) - 1).toNat = k - 1 := by omega
    have hkey : List.take 2 (List.drop (off + ((k : Int) - 1).toNat * 4) C) = keyV (l[k - 1]'(by omega)).t (l[k - 1]'(by omega)).id := by
     rw [ek]
     have := congrArg (List.take 2) hc2
     rw [List.take_take] at this
     exact this
    have hfit3 : off + ((k : Int) - 1).toNat * 4 + 2 ≤ C.length := by rw [ek]; omega
    obtain ⟨g1, g2⟩ := Wt hok (by omega)
    have hrp := (g2 (k - 1) (by omega) (by omega)).1
    have hrk1 : rt (k - 1) (l[k - 1]'(by omega)) = Yy (l[k - 1]'(by omega)) := by rw [← hrt]
    rw [hrk1] at hrp
    have hidp := hid _ (List.getElem_mem (show k - 1 < l.length by omega))
    clear hc2 hfit2 hrk hrk1
    generalize l[k]'(by omega) = x at *
    generalize l[k - 1]'(by omega) = y at *
    obtain ⟨y0, y3, _⟩ := rowOk_iff hrp
    obtain ⟨x0, x3, _⟩ := rowOk_iff hx
    have hor := order_lt (t1 := y.t) (t2 := x.t) hidp hidk
    unfold ltR at hs
    by_cases hcm : cmpK y.t y.id x.t x.id < 0
    ·rw [decide_eq_true hcm] at hs
     have hcm2 := hor.1 hcm
     repeat' (first | (refine Zj ?_; first | (refine Zg ?_; refine qQ ?_) | refine Zl ?_) | refine Za ?_ | (refine Zi ?_; refine Zq ?_) | (refine Zh ?_; refine Zp ?_) | intro _)
     refine ZI (Zv _ _ _) ZC ?_
     all_goals refine Yr 0 ?_
     all_goals (refine Zt (i := 1) ?_; ((try refine Zr ?_); (first | (refine Zc (.func 247) ?_; refine qC rfl rfl (Wj _ x) ?_; rintro v ρ' L' hle ⟨rfl, rfl, rfl⟩ <;> (try simp only [kM, kN, kO, hx])) | (refine Zl ?_; try intro _)) <;> ((try simp only [kM, kN, kO]); refine Za ?_; refine Zs ?_)))
     all_goals (refine rUn 2 ?_; refine Ye 3 ?_; (first | refine Zd 4 ?_ | refine Zb 4 ?_ | refine ZT 4 ?_); (first | refine Zd 5 ?_ | refine Zb 5 ?_ | refine wCm 5 ?_); (first | refine Zd 6 ?_ | refine Zb 6 ?_ | refine ZT 6 ?_); (first | refine Zd 7 ?_ | refine Zb 7 ?_ | refine ZT 7 ?_); (first | refine Zd 8 ?_ | refine Zb 8 ?_ | refine ZT 8 ?_); (first | refine Zd 9 ?_ | refine Zb 9 ?_ | refine wSb 9 ?_); (first | refine Zd 10 ?_ | refine Zb 10 ?_ | refine wIa 10 ?_); (first | refine Zd 11 ?_ | refine Zb 11 ?_ | refine wFa 11 ?_); (first | refine Zd 12 ?_ | refine Zb 12 ?_ | refine wLd 12 ?_); (first | refine Zd 14 ?_ | refine Zb 14 ?_ | refine wFa 14 ?_); (first | refine Zd 15 ?_ | refine Zb 15 ?_ | refine wLd 15 ?_))
     all_goals (first | refine Zd 13 ?_ | refine Zb 13 ?_ | (refine Zt (i := 13) ?_; ((try refine Zr ?_); (first | (refine Zc (.func 281) ?_; refine qC rfl rfl (YG _ y.t y.id y0 y3 hidp) ?_; rintro v ρ' L' hle ⟨rfl, rfl, rfl⟩ <;> (try simp only [kM, kN, kO])) | (refine Zc (.func 281) ?_; refine qC rfl rfl (YG _ x.t x.id x0 x3 hidk) ?_; rintro v ρ' L' hle ⟨rfl, rfl, rfl⟩ <;> (try simp only [kM, kN, kO])) | (refine Zl ?_; try intro _)) <;> ((try simp only [kM, kN, kO]); refine Za ?_; refine Zs ?_))))
     all_goals (first | refine Zd 16 ?_ | refine Zb 16 ?_ | (refine Zt (i := 16) ?_; ((try refine Zr ?_); (first | (refine Zc (.func 281) ?_; refine qC rfl rfl (YG _ y.t y.id y0 y3 hidp) ?_; rintro v ρ' L' hle ⟨rfl, rfl, rfl⟩ <;> (try simp only [kM, kN, kO])) | (refine Zc (.func 281) ?_; refine qC rfl rfl (YG _ x.t x.id x0 x3 hidk) ?_; rintro v ρ' L' hle ⟨rfl, rfl, rfl⟩ <;> (try simp only [kM, kN, kO])) | (refine Zl ?_; try intro _)) <;> ((try simp only [kM, kN, kO]); refine Za ?_; refine Zs ?_))))
     all_goals (refine Yi ?_; (first | refine Zd 17 ?_ | refine Zb 17 ?_ | refine wCm 17 ?_); (first | refine Zd 18 ?_ | refine Zb 18 ?_ | refine wPk 18 ?_); refine rPk 19 ?_; refine ZP ?_)
     all_goals (repeat' (first | (refine Zj ?_; first | (refine Zg ?_; refine qQ ?_) | refine Zl ?_) | refine Za ?_ | (refine Zi ?_; refine Zq ?_) | (refine Zh ?_; refine Zp ?_) | intro _))
     all_goals refine Zo (k + 1) (⟨hlt, hs⟩) Zk Zk rfl tk inferInstance (by first | omega | (dsimp only; omega))
    ·rw [decide_eq_false hcm] at hs
     rw [hfin hs, Bool.and_false]
     have hcm2 : ¬ (y.t * 65536 + y.id < x.t * 65536 + x.id) := fun h => hcm (hor.2 h)
     repeat' (first | (refine Zj ?_; first | (refine Zg ?_; refine qQ ?_) | refine Zl ?_) | refine Za ?_ | (refine Zi ?_; refine Zq ?_) | (refine Zh ?_; refine Zp ?_) | intro _)
     refine ZI (Zv _ _ _) ZC ?_
     all_goals refine Yr 0 ?_
     all_goals (refine Zt (i := 1) ?_; ((try refine Zr ?_); (first | (refine Zc (.func 247) ?_; refine qC rfl rfl (Wj _ x) ?_; rintro v ρ' L' hle ⟨rfl, rfl, rfl⟩ <;> (try simp only [kM, kN, kO, hx])) | (refine Zl ?_; try intro _)) <;> ((try simp only [kM, kN, kO]); refine Za ?_; refine Zs ?_)))
     all_goals (refine rUn 2 ?_; refine Ye 3 ?_; (first | refine Zd 4 ?_ | refine Zb 4 ?_ | refine ZT 4 ?_); (first | refine Zd 5 ?_ | refine Zb 5 ?_ | refine wCm 5 ?_); (first | refine Zd 6 ?_ | refine Zb 6 ?_ | refine ZT 6 ?_); (first | refine Zd 7 ?_ | refine Zb 7 ?_ | refine ZT 7 ?_); (first | refine Zd 8 ?_ | refine Zb 8 ?_ | refine ZT 8 ?_); (first | refine Zd 9 ?_ | refine Zb 9 ?_ | refine wSb 9 ?_); (first | refine Zd 10 ?_ | refine Zb 10 ?_ | refine wIa 10 ?_); (first | refine Zd 11 ?_ | refine Zb 11 ?_ | refine wFa 11 ?_); (first | refine Zd 12 ?_ | refine Zb 12 ?_ | refine wLd 12 ?_); (first | refine Zd 14 ?_ | refine Zb 14 ?_ | refine wFa 14 ?_); (first | refine Zd 15 ?_ | refine Zb 15 ?_ | refine wLd 15 ?_))
     all_goals (first | refine Zd 13 ?_ | refine Zb 13 ?_ | (refine Zt (i := 13) ?_; ((try refine Zr ?_); (first | (refine Zc (.func 281) ?_; refine qC rfl rfl (YG _ y.t y.id y0 y3 hidp) ?_; rintro v ρ' L' hle ⟨rfl, rfl, rfl⟩ <;> (try simp only [kM, kN, kO])) | (refine Zc (.func 281) ?_; refine qC rfl rfl (YG _ x.t x.id x0 x3 hidk) ?_; rintro v ρ' L' hle ⟨rfl, rfl, rfl⟩ <;> (try simp only [kM, kN, kO])) | (refine Zl ?_; try intro _)) <;> ((try simp only [kM, kN, kO]); refine Za ?_; refine Zs ?_))))
     all_goals (first | refine Zd 16 ?_ | refine Zb 16 ?_ | (refine Zt (i := 16) ?_; ((try refine Zr ?_); (first | (refine Zc (.func 281) ?_; refine qC rfl rfl (YG _ y.t y.id y0 y3 hidp) ?_; rintro v ρ' L' hle ⟨rfl, rfl, rfl⟩ <;> (try simp only [kM, kN, kO])) | (refine Zc (.func 281) ?_; refine qC rfl rfl (YG _ x.t x.id x0 x3 hidk) ?_; rintro v ρ' L' hle ⟨rfl, rfl, rfl⟩ <;> (try simp only [kM, kN, kO])) | (refine Zl ?_; try intro _)) <;> ((try simp only [kM, kN, kO]); refine Za ?_; refine Zs ?_))))
     all_goals (refine Yi ?_; (first | refine Zd 17 ?_ | refine Zb 17 ?_ | refine wCm 17 ?_); (first | refine Zd 18 ?_ | refine Zb 18 ?_ | refine wPk 18 ?_); refine rPk 19 ?_; refine ZP ?_)
     all_goals (repeat' (first | (refine Zj ?_; first | (refine Zg ?_; refine qQ ?_) | refine Zl ?_) | refine Za ?_ | (refine Zi ?_; refine Zq ?_) | (refine Zh ?_; refine Zp ?_) | intro _))
     all_goals exact qE ⟨rfl, rfl, rfl⟩
 ·have hk2 : k = n := by omega
  subst hk2
  rw [hok, Bool.and_true]
  by_cases h4 : k ≤ 4
  ·rw [decide_eq_true h4]
   repeat' (first | (refine Zj ?_; first | (refine Zg ?_; refine qQ ?_) | refine Zl ?_) | refine Za ?_ | (refine Zi ?_; refine Zq ?_) | (refine Zh ?_; refine Zp ?_) | intro _)
   exact qE ⟨rfl, rfl, rfl⟩
  ·rw [decide_eq_false h4]
   repeat' (first | (refine Zj ?_; first | (refine Zg ?_; refine qQ ?_) | refine Zl ?_) | refine Za ?_ | (refine Zi ?_; refine Zq ?_) | (refine Zh ?_; refine Zp ?_) | intro _)
   exact qE ⟨rfl, rfl, rfl⟩
end Go.Proofs.E
