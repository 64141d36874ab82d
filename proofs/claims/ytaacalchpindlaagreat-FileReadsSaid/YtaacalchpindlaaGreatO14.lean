/- The law FileReads. Part 14 of 15. -/
import Derived.Test.YtaacalchpindlaaGreatO13
namespace Go.Proofs.E
open Go Go.RowKit
set_option linter.unusedVariables false
set_option linter.unusedSimpArgs false
set_option linter.unusedSectionVars false
set_option maxRecDepth 8000
theorem rs_flat {α : Type} {sz : Nat} {g : α → List Value} {C : List Value} {off : Nat} : ∀ (l : List α) (k : Nat), k ≤ l.length → (∀ i (h : i < l.length), (C.drop (off + i * sz)).take sz = g l[i]) → (C.drop off).take (k * sz) = ((l.take k).map g).flatten
 | l, 0, _, _ => by simp
 | l, k + 1, hk, h => by
  have ih := rs_flat l k (by omega) h
  rw [show l.take (k + 1) = l.take k ++ [l[k]'(by omega)] from List.take_succ_eq_append_getElem (by omega), Nat.add_mul, Nat.one_mul, List.take_add, ih, List.drop_drop, h k (by omega)]
  simp only [List.map_append, List.flatten_append, List.map_cons, List.map_nil, List.flatten_cons, List.flatten_nil, List.append_nil]
theorem aIn_of {ρ : Hp} {α : Type} {sz : Nat} {g : α → List Value} {P : α → Prop} {cs : List Value} {s : Option Addr × Nat × Nat × List α} (hg : ∀ x, (g x).length = sz) (h : RS ρ sz (fun cs x => cs = g x ∧ P x) cs s) : AIn ρ sz g s.1 s.2.1 s.2.2.2 ∧ (∀ x ∈ s.2.2.2, P x) ∧ s.2.1 ≤ s.2.2.1 ∧ s.2.1 ≤ 9223372036854775807 := by
 obtain ⟨a, n, c, ks⟩ := s
 obtain ⟨h1, h2, h3, h4, h5⟩ := h
 dsimp only at h1 h2 h3 h4 h5 ⊢
 refine ⟨⟨h4, ?_, fun x _ => hg x⟩, fun x hx => ?_, h2, by omega⟩
 ·by_cases h0 : n = 0
  ·exact .inl h0
  ·right
   obtain ⟨b, off, C, T, fr, e1, e2, e3, e4⟩ := h5 0 (by omega)
   have same : ∀ i (h : i < ks.length), off + i * sz + sz ≤ C.length ∧ (C.drop (off + i * sz)).take sz = g ks[i] := fun i hi => by
    obtain ⟨b', off', C', T', fr', f1, f2, f3, f4⟩ := h5 i hi
    rw [e1] at f1
    cases f1
    rw [e2] at f2
    cases f2
    exact ⟨f3, f4.1⟩
   refine ⟨b, off, C, T, fr, e1, e2, ?_, ?_⟩
   ·have := (same (n - 1) (by omega)).1
    have e : n * sz = (n - 1) * sz + sz := by
     obtain ⟨m, rfl⟩ : ∃ m, n = m + 1 := ⟨n - 1, by omega⟩
     rw [Nat.add_mul]; simp
    omega
   ·have := rs_flat (sz := sz) (g := g) ks n (by omega) (fun i hi => (same i hi).2)
    rw [this, List.take_of_length_le (by omega)]
 ·obtain ⟨i, hi, rfl⟩ := List.mem_iff_getElem.1 hx
  obtain ⟨_, _, _, _, _, _, _, _, f⟩ := h5 i hi
  exact f.2
section
variable {H : Type} {enc : TypeId × Value → H} {w : World}
theorem opn_str : Opn enc Tryz.prog w 9 (fun cs (l : List UInt8) => cs = [strV l]) := fun fuel cs x h => by
 obtain ⟨s, rfl, _, _⟩ := DataW.trod_string Tryz.underlying9 h
 obtain ⟨⟨l⟩⟩ := s
 exact ⟨l, rfl⟩
theorem opn_key : Opn enc Tryz.prog w 63 (fun cs (k : Int × Nat) => cs = keyV k.1 k.2 ∧ k.2 < 65536) := fun fuel cs x h => by
 obtain ⟨hl, hf⟩ := opn_fields Tryz.underlying63 h
 have hl : cs.length = 2 := by rw [hl]; kernel_rfl
 obtain ⟨c0, c1, rfl⟩ : ∃ c0 c1, cs = [c0, c1] := by
  match cs, hl with
  | [c0, c1], _ => exact ⟨c0, c1, rfl⟩
 obtain ⟨t, h0, _⟩ := Yx h Tryz.underlying63 0 0 1 rfl rfl rfl (by kernel_rfl) (XS Tryz.underlying3)
 obtain ⟨i, h1, i0, i1⟩ := Yx h Tryz.underlying63 1 1 1 rfl rfl rfl (by kernel_rfl) (XS Tryz.underlying61)
 simp only [List.drop_zero, List.drop_succ_cons, List.take_succ_cons, List.take_zero, List.cons.injEq, and_true] at h0 h1
 subst h0; subst h1
 simp only [lo, hi] at i0 i1
 refine ⟨(t, i.toNat), ?_, by dsimp only; omega⟩
 have : ((i.toNat : Nat) : Int) = i := by omega
 simp only [keyV, this]
theorem opn_row : Opn enc Tryz.prog w 65 (fun cs (r : Row) => cs = Yo r ∧ Xy r) := fun fuel cs x h => by
 obtain ⟨hl, hf⟩ := opn_fields Tryz.underlying65 h
 have hl : cs.length = 4 := by rw [hl]; kernel_rfl
 obtain ⟨c0, c1, c2, c3, rfl⟩ : ∃ c0 c1 c2 c3, cs = [c0, c1, c2, c3] := by
  match cs, hl with
  | [c0, c1, c2, c3], _ => exact ⟨c0, c1, c2, c3, rfl⟩
 obtain ⟨⟨t, i⟩, h0, hi0⟩ := Yx h Tryz.underlying65 0 0 2 rfl rfl rfl (by kernel_rfl) opn_key
 obtain ⟨v, h1, v0, v1⟩ := Yx h Tryz.underlying65 1 2 1 rfl rfl rfl (by kernel_rfl) (XS Tryz.underlying2)
 obtain ⟨s, h2⟩ := Yx h Tryz.underlying65 2 3 1 rfl rfl rfl (by kernel_rfl) opn_str
 simp only [List.drop_zero, List.drop_succ_cons, List.take_succ_cons, List.take_zero, List.cons.injEq, and_true, keyV] at h0 h1 h2
 obtain ⟨rfl, rfl⟩ := h0
 subst h1; subst h2
 simp only [lo, hi] at v0 v1
 exact ⟨⟨t, i, v, s⟩, rfl, ⟨hi0, v0, v1⟩⟩
theorem opn_kid : Opn enc Tryz.prog w 82 (fun cs (k : Kid) => cs = YT k ∧ k.id < 65536) := fun fuel cs x h => by
 obtain ⟨hl, hf⟩ := opn_fields Tryz.underlying82 h
 have hl : cs.length = 3 := by rw [hl]; kernel_rfl
 obtain ⟨c0, c1, c2, rfl⟩ : ∃ c0 c1 c2, cs = [c0, c1, c2] := by
  match cs, hl with
  | [c0, c1, c2], _ => exact ⟨c0, c1, c2, rfl⟩
 obtain ⟨⟨t, i⟩, h0, hi0⟩ := Yx h Tryz.underlying82 0 0 2 rfl rfl rfl (by kernel_rfl) opn_key
 obtain ⟨v, h1, _⟩ := Yx h Tryz.underlying82 1 2 1 rfl rfl rfl (by kernel_rfl) (XS Tryz.underlying3)
 simp only [List.drop_zero, List.drop_succ_cons, List.take_succ_cons, List.take_zero, List.cons.injEq, and_true, keyV] at h0 h1
 obtain ⟨rfl, rfl⟩ := h0
 subst h1
 exact ⟨⟨t, i, v⟩, rfl, hi0⟩
structure ContI (ρ : Hp) (x : CV × Yt) : Prop where
 c : CInW ρ x.1 x.2.rows x.2.kids
 row : ∀ r ∈ x.2.rows, Xy r
 kid : ∀ k ∈ x.2.kids, k.id < 65536
theorem opn_cont : Opn enc Tryz.prog w 36 (fun cs (x : CV × Yt) => cs = YD x.2.kind x.1 ∧ ContI (hpOf w) x) := fun fuel cs x h => by
 obtain ⟨hl, hf⟩ := opn_fields Tryz.underlying36 h
 have hl : cs.length = 3 := by rw [hl]; kernel_rfl
 obtain ⟨c0, c1, c2, rfl⟩ : ∃ c0 c1 c2, cs = [c0, c1, c2] := by
  match cs, hl with
  | [c0, c1, c2], _ => exact ⟨c0, c1, c2, rfl⟩
 obtain ⟨k, h0, _⟩ := Yx h Tryz.underlying36 0 0 1 rfl rfl rfl (by kernel_rfl) (XS Tryz.underlying3)
 obtain ⟨⟨ra, rn, rc, rows⟩, h1⟩ := Yx h Tryz.underlying36 1 1 1 rfl rfl rfl (by kernel_rfl) (opn_slice (sz := 4) Tryz.underlying33 (by kernel_rfl) (by decide) opn_row)
 obtain ⟨⟨ka, kn, kc, kids⟩, h2⟩ := Yx h Tryz.underlying36 2 2 1 rfl rfl rfl (by kernel_rfl) (opn_slice (sz := 3) Tryz.underlying34 (by kernel_rfl) (by decide) opn_kid)
 obtain ⟨g1, g2, g3, g4⟩ := aIn_of rowV_len h1
 obtain ⟨k1, k2, k3, k4⟩ := aIn_of kidV_len h2
 replace h1 := h1.cells
 replace h2 := h2.cells
 simp only [List.drop_zero, List.drop_succ_cons, List.take_succ_cons, List.take_zero, List.cons.injEq, and_true] at h0 h1 h2
 subst h0; subst h1; subst h2
 exact ⟨(⟨ra, rn, rc, ka, kn, kc⟩, ⟨k, rows, kids⟩), rfl, ⟨⟨g1, k1, g4, k4, g3, k3⟩, g2, k2⟩⟩
end
end Go.Proofs.E
namespace Go.Proofs.E
open Go
set_option linter.unusedVariables false
set_option linter.unusedSimpArgs false
set_option linter.unusedSectionVars false
set_option maxRecDepth 4000
set_option maxHeartbeats 1000000
attribute [local irreducible] Yl TL TC TE Spec XW R1 Hp.le EnvLe TS TR YS Zo
structure LaidV where
 page : Int
 slot : Int
 part : Int
 at' : Int
 stamp : Nat
 lsn : Nat
 w : CV
 c : Yt
 byte : UInt8
abbrev laidC (e : LaidV) : List Value := [.int .i64 e.page, .int .i64 e.slot, .int .i64 e.part, .int .i64 e.at', .int .u64 (e.stamp : Nat), .int .u64 (e.lsn : Nat), .int .i64 e.c.kind, .slice e.w.ra e.w.rn e.w.rc, .slice e.w.ka e.w.kn e.w.kc, .int .u8 (e.byte.toNat : Int)]
theorem ContI.monoQ {ρ ρ' : Hp} {x : CV × Yt} (h : ContI ρ x) (hl : ρ.le ρ') : ContI ρ' x := ⟨h.c.mono hl, h.row, h.kid⟩
structure LaidIn (ρ : Hp) (e : LaidV) : Prop where
 st : e.stamp < 18446744073709551616
 ls : e.lsn < 18446744073709551616
 c : ContI ρ (e.w, e.c)
theorem LaidIn.mono {ρ ρ' : Hp} {e : LaidV} (h : LaidIn ρ e) (hl : ρ.le ρ') : LaidIn ρ' e := ⟨h.st, h.ls, h.c.monoQ hl⟩
theorem u64_nnQ (a : Int) : 0 ≤ IntKind.u64.wrap a ∧ IntKind.u64.wrap a < 18446744073709551616 := by
 have : IntKind.u64.wrap a = a % 18446744073709551616 := by simp only [IntKind.wrap]; rfl
 omega
theorem u64_modQ (a m : Int) (h0 : 0 < m) (h1 : m ≤ 1000000) : ∃ q : Nat, (IntKind.u64.wrap a).tmod m = q ∧ (q : Int) < m ∧ IntKind.i64.wrap (q : Int) = q := by
 have h2 := (u64_nnQ a).1
 have h3 : (IntKind.u64.wrap a).tmod m = (IntKind.u64.wrap a) % m := Int.tmod_eq_emod_of_nonneg h2
 have h4 := Int.emod_nonneg (IntKind.u64.wrap a) (show m ≠ 0 by omega)
 have h5 := Int.emod_lt_of_pos (IntKind.u64.wrap a) h0
 refine ⟨((IntKind.u64.wrap a) % m).toNat, by rw [h3]; omega, by omega, We (by simp only [lo, hi]; omega)⟩
theorem fewC_idQ {ρ : Hp} {w : CV} {c : Yt} (h : ContI ρ (w, c)) : (∀ r ∈ (fewC c).rows, r.id < 65536) ∧ ∀ k ∈ (fewC c).kids, k.id < 65536 := by
 refine ⟨fun r hr => ?_, fun k hk => h.kid k (List.mem_of_mem_take hk)⟩
 simp only [fewC, List.mem_map] at hr
 obtain ⟨r0, hr0, rfl⟩ := hr
 exact (h.row r0 (List.mem_of_mem_take hr0)).id
theorem xor_b (x y : UInt8) : xorI (x.toNat : Int) (y.toNat : Int) = ((x ^^^ y).toNat : Int) := by simp [xorI]
theorem blk_set {B : Bs} {q : Nat} (hq : q < B.length) (x : UInt8) : SetL (B.map Zs) (0 + q * 1) (.int .u8 (x.toNat : Int)) ((B.set q x).map Zs) := ⟨by simp; omega, by
 have h : 0 + q * 1 = q := by omega
 rw [h]
 simp only [stc, List.length_singleton, List.map_set]
 rw [List.set_eq_take_append_cons_drop, if_pos (by simpa using hq)]
 simp [Zs]⟩
theorem blk_get {B : Bs} {q : Nat} (hq : q < B.length) : (B.map Zs)[0 + q * 1]? = some (.int .u8 ((B[q]).toNat : Int)) := by
 have h : 0 + q * 1 = q := by omega
 rw [h]
 simp [Zs, hq]
theorem lays14_spec (ρ : Hp) (db n c : Nat) (a : Option Addr) (l : List LaidV) (hl : AIn ρ 10 laidC a n l) (hin : ∀ e ∈ l, LaidIn ρ e) (hbig : n ≤ 9223372036854775807) (k : DK) (D : DS) (hD : DOk k D) (hc : D.Calm) (hlen : D.secs.length = 260) :
  Spec Tryz.prog 7 [.pointer (some ⟨db, 0, none⟩), .slice a n c] ρ (ZG db k D) (fun v ρ' L' => v = .bool true ∧ ρ.le ρ' ∧ ∃ k' D', DOk k' D' ∧ FD D' ∧ L' = ZG db k' D') := by
 have hll := hl.len
 refine Zf Tryz.func7 rfl rfl rfl fun u R => ?_
 simp only [Zv, List.cons_append, List.nil_append]
 repeat' (first | (refine Zg ?_; first | (refine Ze ?_; refine qQ ?_) | refine Zj ?_ | refine qAn ?_ | refine qXo ?_ | refine qNt ?_) | refine Za ?_ | (refine Zh ?_; refine Zp ?_) | (refine Zi ?_; refine Zq ?_) | intro _)
 refine ZB [(0, _), (12, _), (13, _)] (fun (ζ : (Nat) × (Hp) × (DK) × (DS)) => [(14, .int .i64 ζ.1), (4, .bool false)]) (fun (ζ : (Nat) × (Hp) × (DK) × (DS)) => ζ.2.1) (fun (ζ : (Nat) × (Hp) × (DK) × (DS)) => ZG db ζ.2.2.1 ζ.2.2.2) (fun (ζ : (Nat) × (Hp) × (DK) × (DS)) => (ζ.1 ≤ n ∧ ζ.1 ≤ 30) ∧ ρ.le ζ.2.1 ∧ DOk ζ.2.2.1 ζ.2.2.2 ∧ ζ.2.2.2.Calm ∧ ζ.2.2.2.secs.length = 260) (fun (ζ : (Nat) × (Hp) × (DK) × (DS)) => n - ζ.1) ((0, ρ, k, D)) (⟨⟨Nat.zero_le _, Nat.zero_le _⟩, Hp.le_refl _, hD, hc, hlen⟩) Zm Zm rfl tk ?_
 rintro ⟨j, ρ2, k, D⟩ hI
 try simp only [List.cons_append, List.nil_append, List.append_assoc, List.append_eq] at hI ⊢
 try dsimp only at hI ⊢
 obtain ⟨⟨hj, hj3⟩, hl2, hk, cm, hL⟩ := hI
 have hsync := fun (u : Unit) => FD.sync cm hk.ok hL
 by_cases hlt : j < n
 ·obtain ⟨b, off, C, T, fr, rfl, hb, hb5, hcd⟩ := (hl.mono hl2).get (show j < l.length by omega)
  have he := (hin _ (List.getElem_mem (show j < l.length by omega))).mono hl2
  generalize l[j]'(by omega) = e at *
  by_cases h30 : j = 30
  ·repeat' (first | (refine Zd (.func 24) ?_; refine qC rfl rfl (ksync _ db k D hk) ?_; rintro v ρ' L' hle ⟨rfl, hl3, k3, hk3, rfl⟩ <;> (try simp only [kM, kN, kO])) | (refine Zg ?_; first | (refine Ze ?_; refine qQ ?_) | refine Zj ?_ | refine qAn ?_ | refine qXo ?_ | refine qNt ?_) | refine Za ?_ | (refine Zh ?_; refine Zp ?_) | (refine Zi ?_; refine Zq ?_) | intro _)
   obtain ⟨g1, g2⟩ := hsync ()
   rw [g1]
   repeat' (first | (refine Zg ?_; first | (refine Ze ?_; refine qQ ?_) | refine Zj ?_ | refine qAn ?_ | refine qXo ?_ | refine qNt ?_) | refine Za ?_ | (refine Zh ?_; refine Zp ?_) | (refine Zi ?_; refine Zq ?_) | intro _)
   exact qE (L' := ZG db k3 D.sync.1) ⟨rfl, Hp.le_trans hl2 hl3, k3, _, hk3, g2, rfl⟩
  ·obtain ⟨pg, hpe, hpl, hpw⟩ := u64_modQ e.page 3 (by omega) (by omega)
   obtain ⟨sl, hse, hsl, hsw⟩ := u64_modQ e.slot 2 (by omega) (by omega)
   obtain ⟨pt, hpte, hptl, hptw⟩ := u64_modQ e.part 2 (by omega) (by omega)
   obtain ⟨q, hqe, hql, hqw⟩ := u64_modQ e.at' 64 (by omega) (by omega)
   have hid := fewC_idQ he.c
   cases hok : ZQ (fewC e.c) with
   | false =>
    repeat' (first | (refine Zd (.func 12) ?_; refine qC rfl rfl (few14_spec _ e.w e.c he.c.c) ?_; rintro v ρ' L' hle ⟨hl3, w3, rfl, hC3, rfl⟩ <;> (try simp only [kM, kN, kO])) | (refine Zd (.func 13) ?_; refine qC rfl rfl (right_spec _ w3 (fewC e.c) hC3 hid.1 hid.2) ?_; rintro v ρ' L' hle ⟨rfl, rfl, rfl⟩ <;> (try simp only [kM, kN, kO])) | (refine Zg ?_; first | (refine Ze ?_; refine qQ ?_) | refine Zj ?_ | refine qAn ?_ | refine qXo ?_ | refine qNt ?_) | refine Za ?_ | (refine Zh ?_; refine Zp ?_) | (refine Zi ?_; refine Zq ?_) | intro _)
    rw [hok]
    repeat' (first | (refine Zg ?_; first | (refine Ze ?_; refine qQ ?_) | refine Zj ?_ | refine qAn ?_ | refine qXo ?_ | refine qNt ?_) | refine Za ?_ | (refine Zh ?_; refine Zp ?_) | (refine Zi ?_; refine Zq ?_) | intro _)
    refine Zr (j + 1, _, k, D) (⟨⟨hlt, by omega⟩, Hp.le_trans hl2 hl3, hk, cm, hL⟩) Zm Zm rfl tk inferInstance (by first | omega | (dsimp only; omega))
   | true =>
    repeat' (first | (refine Zd (.func 12) ?_; refine qC rfl rfl (few14_spec _ e.w e.c he.c.c) ?_; rintro v ρ' L' hle ⟨hl3, w3, rfl, hC3, rfl⟩ <;> (try simp only [kM, kN, kO])) | (refine Zd (.func 13) ?_; refine qC rfl rfl (right_spec _ w3 (fewC e.c) hC3 hid.1 hid.2) ?_; rintro v ρ' L' hle ⟨rfl, rfl, rfl⟩ <;> (try simp only [kM, kN, kO])) | (refine Zg ?_; first | (refine Ze ?_; refine qQ ?_) | refine Zj ?_ | refine qAn ?_ | refine qXo ?_ | refine qNt ?_) | refine Za ?_ | (refine Zh ?_; refine Zp ?_) | (refine Zi ?_; refine Zq ?_) | intro _)
    rw [hok]
    repeat' (first | (refine Zg ?_; first | (refine Ze ?_; refine qQ ?_) | refine Zj ?_ | refine qAn ?_ | refine qXo ?_ | refine qNt ?_) | refine Za ?_ | (refine Zh ?_; refine Zp ?_) | (refine Zi ?_; refine Zq ?_) | intro _)
    rename_i b6 b7 hlx
    refine ZD (Zo _ _ ([[(b6, .cells ⟨laidC e⟩ 71 (0, 0))]])) (Zx (hT := tk) (Hp.le_refl _)) ?_
    all_goals (refine rFa 0 ?_; refine ZU ?_; refine rLd 1 ?_; refine rCv 2 ?_; refine rRm 3 ?_; refine rCv 4 ?_; refine rFa 5 ?_; refine rLd 6 ?_; refine rCv 7 ?_; refine rRm 8 ?_; refine rCv 9 ?_; refine rFa 10 ?_; refine rLd 11 ?_; refine rCv 12 ?_; refine rRm 13 ?_; refine rCv 14 ?_; refine rAs 15 ?_; refine rAs 16 ?_; refine rAs 17 ?_; refine ZI ?_)
    all_goals rw [hpe, hse, hpte]
    have hp0 : (ZE pg e.stamp e.lsn (fewC e.c) 0).length = 64 := Yg _ _ _ _ (by omega)
    have hp1 : (ZE pg e.stamp e.lsn (fewC e.c) 1).length = 64 := Yg _ _ _ _ (by omega)
    have htw := two_at hp0 hp1 (show pt < 2 by omega)
    have hbl : (if pt = 0 then ZE pg e.stamp e.lsn (fewC e.c) 0 else ZE pg e.stamp e.lsn (fewC e.c) 1).length = 64 := by split <;> assumption
    generalize (if pt = 0 then ZE pg e.stamp e.lsn (fewC e.c) 0 else ZE pg e.stamp e.lsn (fewC e.c) 1) = B at *
    have hBm : (B.map Zs).length = 64 := by simpa using hbl
    have hBo := ZM B
    repeat' (first | (refine Zd (.func 19) ?_; refine qC rfl rfl (parts14_spec _ pg (by omega) e.stamp e.lsn he.st he.ls w3 (fewC e.c) hC3 hok hid.1 hid.2) ?_; rintro v ρ' L' hle ⟨rfl, hl4, rfl⟩ <;> (try simp only [kM, kN, kO])) | (refine Yk (y_index_a rfl rfl (by omega) htw) rfl rfl ?_) | (refine Zg ?_; first | (refine Ze ?_; refine qQ ?_) | refine Zj ?_ | refine qAn ?_ | refine qXo ?_ | refine qNt ?_) | refine Za ?_ | (refine Zh ?_; refine Zp ?_) | (refine Zi ?_; refine Zq ?_) | intro _)
    rename_i b11
    have hq : q < B.length := by omega
    haveI hst := blk_set hq (B[q] ^^^ e.byte)
    have hgt := blk_get hq
    have hxb := xor_b B[q] e.byte
    have hb1 : (B[q]).toNat < 256 := (B[q]).toNat_lt
    have hb2 : e.byte.toNat < 256 := e.byte.toNat_lt
    refine tc_phase 10 (Zo _ _ ([[(b11, .cells ⟨B.map Zs⟩ 51 (0, 0))], [(b6, .cells ⟨laidC e⟩ 71 (0, 0))]])) (by decide +kernel) (Zx (hT := tk) (Hp.le_refl _)) ?_
    simp only [List.take_succ_cons, List.take_zero]
    refine rFa 0 ?_
    refine rLd 1 ?_
    refine rCv 2 ?_
    refine rRm 3 ?_
    rw [hqe]
    refine rIa 4 ?_
    refine rLd 5 ?_
    refine rFa 6 ?_
    refine rLd 7 ?_
    refine rXo 8 ?_
    rw [hxb]
    refine rIa 9 ?_
    refine ZI ?_
    refine te_phase (fuel := 1) (m := [true, true, true, true, true, true, true, true, true, true, false]) (Zo _ _ ([])) rfl rfl (Zx (hT := tk) (Hp.le_refl _)) ?_
    refine Zn (i := 10) ?_
    (try refine Zk ?_)
    (first | (refine Zj ?_; try intro _))
    (try simp only [kM, kN, kO])
    refine Za ?_
    refine Zl ?_
    refine ZI ?_
    have hB2 : (B.set q (B[q] ^^^ e.byte)).length = 64 := by rw [List.length_set]; exact hbl
    generalize B.set q (B[q] ^^^ e.byte) = B2 at *
    have hB2m : (B2.map Zs).length = 64 := by simpa using hB2
    have hB2o := ZM B2
    have hix : ((4 : Int) + ((4 * pg + 2 * sl + pt : Nat) : Int)) = ((4 + (4 * pg + 2 * sl + pt) : Nat) : Int) := by omega
    obtain ⟨g1, g2, g3, g4⟩ := cm.write_ok (i := 4 + (4 * pg + 2 * sl + pt)) (by omega) hk.ok hB2
    have hkw := fun ρ => kwrite ρ db k D ((4 + (4 * pg + 2 * sl + pt) : Nat) : Int) B2 hB2 hk
    rw [← hix] at hkw g1 g2 g3 g4
    rw [g1] at hkw
    have hlm := Hp.le_trans hl2 (Hp.le_trans hl3 hl4)
    repeat' (first | (refine Zg ?_; first | (refine Ze ?_; refine qQ ?_) | refine Zj ?_ | refine qAn ?_ | refine qXo ?_ | refine qNt ?_) | refine Za ?_ | (refine Zh ?_; refine Zp ?_) | (refine Zi ?_; refine Zq ?_) | intro _)
    refine ZD (Zo _ _ ([[(b11, .cells ⟨B2.map Zs⟩ 51 (0, 0))]])) (Zx (hT := tk) (Hp.le_refl _)) ?_
    all_goals (refine ZV 0 ?_; refine ZV 1 ?_; refine ZV 2 ?_; refine ZV 3 ?_; refine rLd 6 ?_)
    all_goals (refine Zn (i := 4) ?_; ((try refine Zk ?_); (first | (refine Zd (.func 23) ?_; refine qC rfl rfl (at14_spec _ pg sl pt (by omega) (by omega) (by omega)) ?_; rintro v ρ' L' hle ⟨rfl, rfl, rfl⟩ <;> (try simp only [kM, kN, kO])) | (refine Zj ?_; try intro _)) <;> ((try simp only [kM, kN, kO]); refine Za ?_; refine Zl ?_)))
    all_goals refine rAd 5 ?_
    all_goals (refine Zn (i := 7) ?_; ((try refine Zk ?_); (first | (refine Zd (.func 22) ?_; refine qC rfl rfl ((hkw _)) ?_; rintro v ρ' L' hle ⟨rfl, rfl, k3, hk3, rfl⟩ <;> (try simp only [kM, kN, kO])) | (refine Zj ?_; try intro _)) <;> ((try simp only [kM, kN, kO]); refine Za ?_; refine Zl ?_)))
    all_goals (refine ZU ?_; refine rCm 8 ?_; refine ZI ?_)
    all_goals (repeat' (first | (refine Zg ?_; first | (refine Ze ?_; refine qQ ?_) | refine Zj ?_ | refine qAn ?_ | refine qXo ?_ | refine qNt ?_) | refine Za ?_ | (refine Zh ?_; refine Zp ?_) | (refine Zi ?_; refine Zq ?_) | intro _))
    all_goals refine Zr (j + 1, _, k3, _) (⟨⟨hlt, by omega⟩, hlm, hk3, g2, g4.trans hL⟩) Zm Zm rfl tk inferInstance (by first | omega | (dsimp only; omega))
 ·repeat' (first | (refine Zd (.func 24) ?_; refine qC rfl rfl (ksync _ db k D hk) ?_; rintro v ρ' L' hle ⟨rfl, hl3, k3, hk3, rfl⟩ <;> (try simp only [kM, kN, kO])) | (refine Zg ?_; first | (refine Ze ?_; refine qQ ?_) | refine Zj ?_ | refine qAn ?_ | refine qXo ?_ | refine qNt ?_) | refine Za ?_ | (refine Zh ?_; refine Zp ?_) | (refine Zi ?_; refine Zq ?_) | intro _)
  obtain ⟨g1, g2⟩ := hsync ()
  rw [g1]
  repeat' (first | (refine Zg ?_; first | (refine Ze ?_; refine qQ ?_) | refine Zj ?_ | refine qAn ?_ | refine qXo ?_ | refine qNt ?_) | refine Za ?_ | (refine Zh ?_; refine Zp ?_) | (refine Zi ?_; refine Zq ?_) | intro _)
  exact qE (L' := ZG db k3 D.sync.1) ⟨rfl, Hp.le_trans hl2 hl3, k3, _, hk3, g2, rfl⟩
end Go.Proofs.E
namespace Go.Proofs.E
open Go Go.RowKit
set_option linter.unusedVariables false
set_option linter.unusedSimpArgs false
set_option linter.unusedSectionVars false
set_option maxRecDepth 8000
section
variable {H : Type} {enc : TypeId × Value → H} {w : World}
theorem opn_int43 : Opn enc Tryz.prog w 3 (fun cs (i : Int) => cs = [(fun i => Value.int .i64 i) i] ∧ (-9223372036854775808 ≤ i ∧ i ≤ 9223372036854775807)) := (XS Tryz.underlying3).mono (fun cs b h => ⟨b, h.1, h.2⟩)
theorem opn_laid : Opn enc Tryz.prog w 71 (fun cs (e : LaidV) => cs = laidC e ∧ LaidIn (hpOf w) e) := fun fuel cs x h => by
 obtain ⟨hl, hf⟩ := opn_fields Tryz.underlying71 h
 have hl : cs.length = 10 := by rw [hl]; kernel_rfl
 obtain ⟨c0, c1, c2, c3, c4, c5, c6, c7, c8, c9, rfl⟩ : ∃ c0 c1 c2 c3 c4 c5 c6 c7 c8 c9, cs = [c0, c1, c2, c3, c4, c5, c6, c7, c8, c9] := by
  match cs, hl with
  | [c0, c1, c2, c3, c4, c5, c6, c7, c8, c9], _ => exact ⟨c0, c1, c2, c3, c4, c5, c6, c7, c8, c9, rfl⟩
 obtain ⟨p, h0, _⟩ := Yx h Tryz.underlying71 0 0 1 rfl rfl rfl (by kernel_rfl) (XS Tryz.underlying3)
 obtain ⟨a, h1, _⟩ := Yx h Tryz.underlying71 1 1 1 rfl rfl rfl (by kernel_rfl) (XS Tryz.underlying3)
 obtain ⟨f, h2, _⟩ := Yx h Tryz.underlying71 2 2 1 rfl rfl rfl (by kernel_rfl) (XS Tryz.underlying3)
 obtain ⟨g, h3, _⟩ := Yx h Tryz.underlying71 3 3 1 rfl rfl rfl (by kernel_rfl) (XS Tryz.underlying3)
 obtain ⟨n, h4, n0, n1⟩ := Yx h Tryz.underlying71 4 4 1 rfl rfl rfl (by kernel_rfl) (XS Tryz.underlying37)
 obtain ⟨m, h5, m0, m1⟩ := Yx h Tryz.underlying71 5 5 1 rfl rfl rfl (by kernel_rfl) (XS Tryz.underlying37)
 obtain ⟨⟨cw, cc⟩, h6, hcI⟩ := Yx h Tryz.underlying71 6 6 3 rfl rfl rfl (by kernel_rfl) opn_cont
 obtain ⟨y, h9, y0, y1⟩ := Yx h Tryz.underlying71 7 9 1 rfl rfl rfl (by kernel_rfl) (XS Tryz.underlying5)
 simp only [List.drop_zero, List.drop_succ_cons, List.take_succ_cons, List.take_zero, List.cons.injEq, and_true, YD] at h0 h1 h2 h3 h4 h5 h6 h9
 obtain ⟨h6, h7, h8⟩ := h6
 subst h0; subst h1; subst h2; subst h3; subst h4; subst h5; subst h6; subst h7; subst h8; subst h9
 simp only [lo, hi] at n0 n1 m0 m1 y0 y1
 have hn : ((n.toNat : Nat) : Int) = n := by omega
 have hm : ((m.toNat : Nat) : Int) = m := by omega
 have hy : (((UInt8.ofNat y.toNat).toNat : Nat) : Int) = y := by
  rw [UInt8.toNat_ofNat_of_lt' (by show y.toNat < 256; omega)]; omega
 refine ⟨⟨p, a, f, g, n.toNat, m.toNat, cw, cc, UInt8.ofNat y.toNat⟩, ?_, ⟨by dsimp only; omega, by dsimp only; omega, hcI⟩⟩
 simp only [laidC, hn, hm, hy]
end
end Go.Proofs.E
namespace Go.Proofs.E
open Go
set_option linter.unusedVariables false
set_option linter.unusedSimpArgs false
set_option linter.unusedSectionVars false
set_option maxRecDepth 4000
set_option maxHeartbeats 1000000
attribute [local irreducible] Yl TL TC TE Spec XW R1 Hp.le EnvLe TS TR YS Zo
theorem reads14_spec (ρ : Hp) (a : Option Addr) (n c : Nat) (l : List LaidV) (hl : AIn ρ 10 laidC a n l) (hin : ∀ e ∈ l, LaidIn ρ e) (hbig : n ≤ 9223372036854775807)
  (a1 : Option Addr) (n1 c1 : Nat) (ps : List Int) (hps : SIn ρ (fun i => Value.int .i64 i) a1 n1 ps) (hbig1 : n1 ≤ 9223372036854775807) :
  Spec Tryz.prog 3 [.slice a n c, .slice a1 n1 c1] ρ [] (fun v ρ' L' => v = .bool true ∧ ρ.le ρ' ∧ L' = []) := by
 have hll := hl.len
 have hpl := hps.len
 obtain ⟨n0, n1', n2⟩ := FD.new
 refine Zf Tryz.func3 rfl rfl rfl fun u R => ?_
 simp only [Zv, List.cons_append, List.nil_append]
 repeat' (first | (refine Zd (.func 5) ?_; refine qC rfl rfl (wakes14_spec _) ?_; rintro v ρ' L' hle ⟨rfl, hl1, rfl⟩ <;> (try simp only [kM, kN, kO])) | (refine Zd (.func 6) ?_; refine qC rfl rfl (knew _ 260 (by omega) (by omega)) ?_; rintro v ρ' L' hle ⟨rfl, db, k0, rfl, hk0, rfl⟩ <;> (try simp only [kM, kN, kO])) | (refine Zd (.func 7) ?_; refine qC rfl rfl (lays14_spec _ db n c a l (hl.mono hl1) (fun e he => (hin e he).mono hl1) hbig k0 (DS.new 260) hk0 n0 n2) ?_; rintro v ρ' L' hle ⟨rfl, hl2, k1, D1, hk1, hf1, rfl⟩ <;> (try simp only [kM, kN, kO])) | (have hL1 := hf1.len; refine Zd (.func 8) ?_; refine qC rfl rfl (Open_spec _ db k1 D1 hk1 4 (by omega)) ?_; rintro v5 ρ6 L5 hle5 ⟨hl6, fb, rfl, hF, rfl⟩; try simp only [List.cons_append, List.nil_append, List.append_assoc, List.append_eq]) | (refine Zg ?_; first | (refine Ze ?_; refine qQ ?_) | refine Zj ?_) | refine Za ?_ | (refine Zh ?_; refine Zp ?_) | (refine Zi ?_; refine Zq ?_) | intro _)
 have hl16 := Hp.le_trans hl1 (Hp.le_trans hl2 hl6)
 refine ZB [(5, _), (7, _), (34, _), (35, _)] (fun (ζ : (Nat) × (Hp) × (DS)) => [(36, .int .i64 ζ.1), (4, .bool false)]) (fun (ζ : (Nat) × (Hp) × (DS)) => ζ.2.1) (fun (ζ : (Nat) × (Hp) × (DS)) => ZG db k1 ζ.2.2) (fun (ζ : (Nat) × (Hp) × (DS)) => (ζ.1 ≤ n1 ∧ ζ.1 ≤ 10) ∧ ρ6.le ζ.2.1 ∧ DOk k1 ζ.2.2 ∧ FD ζ.2.2) (fun (ζ : (Nat) × (Hp) × (DS)) => n1 - ζ.1) ((0, ρ6, D1)) (⟨⟨Nat.zero_le _, Nat.zero_le _⟩, Hp.le_refl _, hk1, hf1⟩) Zm Zm rfl tk ?_
 rintro ⟨j, ρ2, D⟩ hI
 try simp only [List.cons_append, List.nil_append, List.append_assoc, List.append_eq] at hI ⊢
 try dsimp only at hI ⊢
 obtain ⟨⟨hj, hj3⟩, hl7, hk, hf⟩ := hI
 have hF7 := hF.mono hl7
 have hlm := Hp.le_trans hl16 hl7
 by_cases hlt : j < n1 ∧ j ≠ 10
 ·obtain ⟨b, off, C, T, fr, rfl, hb, hcd⟩ := (hps.mono hlm).get (show j < ps.length by omega)
  generalize ps[j]'(by omega) = p at *
  by_cases hp : 0 ≤ p ∧ p < 64
  ·obtain ⟨q, rfl⟩ : ∃ q : Nat, p = q := ⟨p.toNat, by omega⟩
   repeat' (first | (refine Zd (.func 11) ?_; refine qC rfl rfl (Wg _ fb db q hF7 (by omega) k1 D hk hf) ?_; rintro v ρ' L' hle ⟨rfl, hl8, D2, hf2, hk2, hs2, rfl⟩ <;> (try simp only [kM, kN, kO])) | (refine Zg ?_; first | (refine Ze ?_; refine qQ ?_) | refine Zj ?_) | refine Za ?_ | (refine Zh ?_; refine Zp ?_) | (refine Zi ?_; refine Zq ?_) | intro _)
   refine Zr (j + 1, _, D2) (⟨⟨hlt.1, by omega⟩, Hp.le_trans hl7 hl8, hk2, hf2⟩) Zm Zm rfl tk inferInstance (by first | omega | (dsimp only; omega))
  ·by_cases hneg : p < 0
   ·repeat' (first | (refine Zd (.func 9) ?_; refine qC rfl rfl (Read_no _ fb p hp) ?_; rintro v ρ' L' hle ⟨rfl, rfl, rfl⟩ <;> (try simp only [kM, kN, kO])) | (refine Zd (.func 10) ?_; refine qC rfl rfl (sameR_spec _ zCV zCV ⟨0, [], []⟩ ⟨0, [], []⟩ CIn.nil CIn.nil) ?_; rintro v ρ' L' hle ⟨rfl, rfl, rfl⟩ <;> (try simp only [kM, kN, kO])) | (refine Zg ?_; first | (refine Ze ?_; refine qQ ?_) | refine Zj ?_) | refine Za ?_ | (refine Zh ?_; refine Zp ?_) | (refine Zi ?_; refine Zq ?_) | intro _)
    refine Zr (j + 1, _, D) (⟨⟨hlt.1, by omega⟩, hl7, hk, hf⟩) Zm Zm rfl tk inferInstance (by first | omega | (dsimp only; omega))
   ·repeat' (first | (refine Zd (.func 9) ?_; refine qC rfl rfl (Read_no _ fb p hp) ?_; rintro v ρ' L' hle ⟨rfl, rfl, rfl⟩ <;> (try simp only [kM, kN, kO])) | (refine Zd (.func 10) ?_; refine qC rfl rfl (sameR_spec _ zCV zCV ⟨0, [], []⟩ ⟨0, [], []⟩ CIn.nil CIn.nil) ?_; rintro v ρ' L' hle ⟨rfl, rfl, rfl⟩ <;> (try simp only [kM, kN, kO])) | (refine Zg ?_; first | (refine Ze ?_; refine qQ ?_) | refine Zj ?_) | refine Za ?_ | (refine Zh ?_; refine Zp ?_) | (refine Zi ?_; refine Zq ?_) | intro _)
    refine Zr (j + 1, _, D) (⟨⟨hlt.1, by omega⟩, hl7, hk, hf⟩) Zm Zm rfl tk inferInstance (by first | omega | (dsimp only; omega))
 ·by_cases h10 : j < n1
  ·have hj10 : j = 10 := by omega
   obtain ⟨b, off, C, T, fr, rfl, hb, hcd⟩ := (hps.mono hlm).get (show j < ps.length by omega)
   repeat' (first | (refine Zd (.func 11) ?_; refine qC rfl rfl (Wg _ fb db 0 hF7 (by omega) k1 D hk hf) ?_; rintro v ρ' L' hle ⟨rfl, hl8, D2, hf2, hk2, hs2, rfl⟩ <;> (try simp only [kM, kN, kO])) | (refine Zg ?_; first | (refine Ze ?_; refine qQ ?_) | refine Zj ?_) | refine Za ?_ | (refine Zh ?_; refine Zp ?_) | (refine Zi ?_; refine Zq ?_) | intro _)
   repeat' (first | (refine Zd (.func 11) ?_; refine qC rfl rfl (Wg _ fb db 1 (hF7.mono hl8) (by omega) k1 D2 hk2 hf2) ?_; rintro v ρ' L' hle ⟨rfl, hl9, D3, hf3, hk3, hs3, rfl⟩ <;> (try simp only [kM, kN, kO])) | (refine Zg ?_; first | (refine Ze ?_; refine qQ ?_) | refine Zj ?_) | refine Za ?_ | (refine Zh ?_; refine Zp ?_) | (refine Zi ?_; refine Zq ?_) | intro _)
   repeat' (first | (refine Zd (.func 11) ?_; refine qC rfl rfl (Wg _ fb db 2 (hF7.mono (Hp.le_trans hl8 hl9)) (by omega) k1 D3 hk3 hf3) ?_; rintro v ρ' L' hle ⟨rfl, hl10, D4, hf4, hk4, hs4, rfl⟩ <;> (try simp only [kM, kN, kO])) | (refine Zg ?_; first | (refine Ze ?_; refine qQ ?_) | refine Zj ?_) | refine Za ?_ | (refine Zh ?_; refine Zp ?_) | (refine Zi ?_; refine Zq ?_) | intro _)
   have hfin := Hp.le_trans hlm (Hp.le_trans hl8 (Hp.le_trans hl9 hl10))
   exact qE (L' := []) ⟨rfl, hfin, rfl⟩
  ·repeat' (first | (refine Zd (.func 11) ?_; refine qC rfl rfl (Wg _ fb db 0 hF7 (by omega) k1 D hk hf) ?_; rintro v ρ' L' hle ⟨rfl, hl8, D2, hf2, hk2, hs2, rfl⟩ <;> (try simp only [kM, kN, kO])) | (refine Zg ?_; first | (refine Ze ?_; refine qQ ?_) | refine Zj ?_) | refine Za ?_ | (refine Zh ?_; refine Zp ?_) | (refine Zi ?_; refine Zq ?_) | intro _)
   repeat' (first | (refine Zd (.func 11) ?_; refine qC rfl rfl (Wg _ fb db 1 (hF7.mono hl8) (by omega) k1 D2 hk2 hf2) ?_; rintro v ρ' L' hle ⟨rfl, hl9, D3, hf3, hk3, hs3, rfl⟩ <;> (try simp only [kM, kN, kO])) | (refine Zg ?_; first | (refine Ze ?_; refine qQ ?_) | refine Zj ?_) | refine Za ?_ | (refine Zh ?_; refine Zp ?_) | (refine Zi ?_; refine Zq ?_) | intro _)
   repeat' (first | (refine Zd (.func 11) ?_; refine qC rfl rfl (Wg _ fb db 2 (hF7.mono (Hp.le_trans hl8 hl9)) (by omega) k1 D3 hk3 hf3) ?_; rintro v ρ' L' hle ⟨rfl, hl10, D4, hf4, hk4, hs4, rfl⟩ <;> (try simp only [kM, kN, kO])) | (refine Zg ?_; first | (refine Ze ?_; refine qQ ?_) | refine Zj ?_) | refine Za ?_ | (refine Zh ?_; refine Zp ?_) | (refine Zi ?_; refine Zq ?_) | intro _)
   have hfin := Hp.le_trans hlm (Hp.le_trans hl8 (Hp.le_trans hl9 hl10))
   exact qE (L' := []) ⟨rfl, hfin, rfl⟩
end Go.Proofs.E
