/- The law FileWrites. Part 13 of 17. -/
import Derived.Test.YtaacalchpindlaaGreatP12
namespace Go.Proofs.E
open Go
set_option linter.unusedVariables false
set_option linter.unusedSimpArgs false
set_option linter.unusedSectionVars false
set_option maxRecDepth 4000
set_option maxHeartbeats 1000000
attribute [local irreducible] Yl TL TC TE Spec XM R1 Hp.le EnvLe TS TR YS Zo
theorem rows_no {l : List UInt8} {y1 : UInt8} {RS : List Row} {m : Nat} (g0 : l = 1 :: y1 :: l.drop 2) (hR : ∀ r ∈ RS, YI r = true ∧ XC r) (hl : RS.length < y1.toNat) (hd : l.drop 2 = RS.flatMap ZL ++ l.drop m) (hn : ¬ Ww (l.drop m)) : (Zz l).2.2 ≠ 0 := fun e => by
 rcases contK e with ⟨r, e1, _⟩ | ⟨rs, r, e1, e2, e3, _⟩ | ⟨rs, r, e1, e2, _⟩
 ·rw [g0] at e1
  exact absurd (List.cons.inj e1).1 (by decide)
 ·rw [g0] at e1
  obtain ⟨h1, h2⟩ := List.cons.inj (List.cons.inj e1).2
  subst h1
  simp only [UInt8.toNat_ofNat'] at hl
  rw [hd] at h2
  obtain ⟨_, g⟩ := preB_of ZL (fun r => YI r = true ∧ XC r) (fun a b x y => row_one a b x y) RS rs _ _ hR e3 (by omega) h2
  rw [List.drop_eq_getElem_cons (show RS.length < rs.length by omega), List.flatMap_cons, List.append_assoc] at g
  have := e3 _ (List.getElem_mem (show RS.length < rs.length by omega))
  exact hn (by rw [g]; exact rowB_W this.1 this.2 _)
 ·rw [g0] at e1
  exact absurd (List.cons.inj e1).1 (by decide)
theorem rows_end {l : List UInt8} {y1 : UInt8} {RS : List Row} {m : Nat} (g0 : l = 1 :: y1 :: l.drop 2) (hR : ∀ r ∈ RS, YI r = true ∧ XC r) (hl : RS.length = y1.toNat) (hd : l.drop 2 = RS.flatMap ZL ++ l.drop m) :
  (ZN ⟨1, RS, []⟩ = true → Zz l = (⟨1, RS, []⟩, ((2 + (RS.flatMap ZL).length : Nat) : Int), 0)) ∧ (ZN ⟨1, RS, []⟩ = false → (Zz l).2.2 ≠ 0) := by
 have hy : y1 = UInt8.ofNat RS.length := by rw [hl, UInt8.ofNat_toNat]
 constructor
 ·intro h
  have h1 := takeCont_back h ⟨fun r hr => (hR r hr).2, by simp⟩ (l.drop m)
  have h2 : Yk ⟨1, RS, []⟩ = 1 :: UInt8.ofNat RS.length :: RS.flatMap ZL := by simp [Yk, cntB, tB]
  rw [h2, List.cons_append, List.cons_append, ← hd, ← hy, ← g0] at h1
  rw [h1, List.length_cons, List.length_cons, show (RS.flatMap ZL).length + 1 + 1 = 2 + (RS.flatMap ZL).length by omega]
 ·intro h e
  have ho := WC e
  rcases contK e with ⟨r, e1, _⟩ | ⟨rs, r, e1, e2, e3, e4⟩ | ⟨rs, r, e1, e2, _⟩
  ·rw [g0] at e1
   exact absurd (List.cons.inj e1).1 (by decide)
  ·rw [g0] at e1
   obtain ⟨h1, h2⟩ := List.cons.inj (List.cons.inj e1).2
   have h3 : RS.length = rs.length := by
    rw [h1] at hl
    simp only [UInt8.toNat_ofNat'] at hl
    omega
   rw [hd] at h2
   obtain ⟨g, _⟩ := preB_of ZL (fun r => YI r = true ∧ XC r) (fun a b x y => row_one a b x y) RS rs _ _ hR e3 (by omega) h2
   rw [h3, List.take_length] at g
   subst g
   obtain ⟨_, _, _, o, _⟩ := ho
   rw [e4] at o
   rw [h] at o
   exact absurd o (by decide)
  ·rw [g0] at e1
   exact absurd (List.cons.inj e1).1 (by decide)
theorem bAt_lt (l : List UInt8) (i : Nat) : bAt l i < 256 := by unfold bAt; exact UInt8.toNat_lt _
def kidW (l : List UInt8) : Kid := ⟨(bAt l 0 : Nat), bAt l 1 * 256 + bAt l 2, (bAt l 3 : Nat)⟩
def KidFt (k : Kid) : Prop := (0 ≤ k.t ∧ k.t < 256) ∧ k.id < 65536 ∧ 0 ≤ k.page ∧ k.page < 256
theorem kidW_ok {l : List UInt8} (h : 4 ≤ l.length) : KidFt (kidW l) ∧ l = Yj (kidW l) ++ l.drop 4 := by
 have b0 := bAt_lt l 0
 have b1 := bAt_lt l 1
 have b2 := bAt_lt l 2
 have b3 := bAt_lt l 3
 refine ⟨⟨by unfold kidW; dsimp only; omega, by unfold kidW; dsimp only; omega, by unfold kidW; dsimp only; omega⟩, ?_⟩
 match l, h with
 | a :: b :: c :: d :: r, _ =>
  have hu : a.toNat < 256 ∧ b.toNat < 256 ∧ c.toNat < 256 ∧ d.toNat < 256 := ⟨a.toNat_lt, b.toNat_lt, c.toNat_lt, d.toNat_lt⟩
  have e2 : be 2 (b.toNat * 256 + c.toNat) = [b, c] := by
   have := be_take (k := 2) (l := [b, c]) (by simp)
   simpa [ZP] using this
  simp [kidW, Yj, Xf, tB, bAt, e2]
theorem kids_no {l : List UInt8} {y1 : UInt8} {KS : List Kid} {m : Nat} (g0 : l = 2 :: y1 :: l.drop 2) (hR : ∀ r ∈ KS, KidFt r) (hl : KS.length < y1.toNat) (hd : l.drop 2 = KS.flatMap Yj ++ l.drop m) (hn : l.length < m + 4) : (Zz l).2.2 ≠ 0 := fun e => by
 rcases contK e with ⟨r, e1, _⟩ | ⟨rs, r, e1, e2, e3, _⟩ | ⟨rs, r, e1, e2, e3, _⟩
 ·rw [g0] at e1
  exact absurd (List.cons.inj e1).1 (by decide)
 ·rw [g0] at e1
  exact absurd (List.cons.inj e1).1 (by decide)
 ·rw [g0] at e1
  obtain ⟨h1, h2⟩ := List.cons.inj (List.cons.inj e1).2
  subst h1
  simp only [UInt8.toNat_ofNat'] at hl
  rw [hd] at h2
  obtain ⟨_, g⟩ := preB_of Yj KidFt (fun a b x y => kid_one a b x y) KS rs _ _ hR e3 (by omega) h2
  rw [List.drop_eq_getElem_cons (show KS.length < rs.length by omega), List.flatMap_cons, List.append_assoc] at g
  have := congrArg List.length g
  rw [List.length_append, WM, List.length_drop] at this
  omega
theorem kids_end {l : List UInt8} {y1 : UInt8} {KS : List Kid} {m : Nat} (g0 : l = 2 :: y1 :: l.drop 2) (hR : ∀ r ∈ KS, KidFt r) (hl : KS.length = y1.toNat) (hd : l.drop 2 = KS.flatMap Yj ++ l.drop m) :
  (ZN ⟨2, [], KS⟩ = true → Zz l = (⟨2, [], KS⟩, ((2 + (KS.flatMap Yj).length : Nat) : Int), 0)) ∧ (ZN ⟨2, [], KS⟩ = false → (Zz l).2.2 ≠ 0) := by
 have hy : y1 = UInt8.ofNat KS.length := by rw [hl, UInt8.ofNat_toNat]
 constructor
 ·intro h
  have h1 := takeCont_back h ⟨by simp, fun k hk => (hR k hk).2.1⟩ (l.drop m)
  have h2 : Yk ⟨2, [], KS⟩ = 2 :: UInt8.ofNat KS.length :: KS.flatMap Yj := by simp [Yk, cntB, tB]
  rw [h2, List.cons_append, List.cons_append, ← hd, ← hy, ← g0] at h1
  rw [h1, List.length_cons, List.length_cons, show (KS.flatMap Yj).length + 1 + 1 = 2 + (KS.flatMap Yj).length by omega]
 ·intro h e
  have ho := WC e
  rcases contK e with ⟨r, e1, _⟩ | ⟨rs, r, e1, e2, e3, e4⟩ | ⟨rs, r, e1, e2, e3, e4⟩
  ·rw [g0] at e1
   exact absurd (List.cons.inj e1).1 (by decide)
  ·rw [g0] at e1
   exact absurd (List.cons.inj e1).1 (by decide)
  ·rw [g0] at e1
   obtain ⟨h1, h2⟩ := List.cons.inj (List.cons.inj e1).2
   have h3 : KS.length = rs.length := by
    rw [h1] at hl
    simp only [UInt8.toNat_ofNat'] at hl
    omega
   rw [hd] at h2
   obtain ⟨g, _⟩ := preB_of Yj KidFt (fun a b x y => kid_one a b x y) KS rs _ _ hR e3 (by omega) h2
   rw [h3, List.take_length] at g
   subst g
   obtain ⟨_, _, _, o, _⟩ := ho
   rw [e4] at o
   rw [h] at o
   exact absurd o (by decide)
theorem takeContD_spec (ρ : Hp) (a : Option Addr) (n c : Nat) (l : List UInt8) (h : SIn ρ Zs a n l) (hc : n ≤ c) (hb : n ≤ 1000000) : Spec Tryz.prog 64 [.slice a n c] ρ []
  (fun v ρ' L' => ρ.le ρ' ∧ (∃ x w k e, v = .tuple ⟨[.agg ⟨Yt x.kind w⟩, .int .i64 k, .int .i64 e]⟩ ∧ (e = 0 ↔ (Zz l).2.2 = 0) ∧ (e = 0 → CIn ρ' w x.rows x.kids ∧ x = (Zz l).1 ∧ k = (Zz l).2.1)) ∧ L' = []) := by
 have hl := h.len
 refine Zf Tryz.func64 rfl rfl rfl fun u R => ?_
 simp only [Zv, List.cons_append, List.nil_append]
 by_cases h1 : n < 1
 ·have hno : (Zz l).2.2 ≠ 0 := fun e => by
   obtain ⟨n', _, e2, _, e4, _⟩ := WC e
   have := congrArg List.length e4
   simp [Yk] at this
   omega
  repeat' (first | (refine iBu ?_; refine Yb (Zy rfl) rfl rfl ?_) | (refine Zg ?_; first | (refine Ze ?_; refine qQ ?_) | refine Zj ?_) | refine Za ?_ | (refine Zh ?_; refine Zq ?_) | (refine Zi ?_; refine Zr ?_) | intro _)
  exact qE (L' := []) ⟨Hp.le_refl _, ⟨⟨0, [], []⟩, ⟨none, 0, 0, none, 0, 0⟩, 0, 7, rfl, ⟨fun e => absurd e (by decide), fun e => absurd e hno⟩, fun e => absurd e (by decide)⟩, rfl⟩
 obtain ⟨b, off, C, T, fr, rfl, hbb, hc0⟩ := h.get (show 0 < l.length by omega)
 have g0 : l = l[0]'(by omega) :: l.drop 1 := by rw [← List.drop_eq_getElem_cons (show 0 < l.length by omega), List.drop_zero]
 generalize l[0]'(by omega) = y0 at *
 have t0 := y0.toNat_lt
 by_cases hk2 : y0.toNat ≤ 2
 ·by_cases hk0 : y0.toNat = 0
  ·have hy : y0 = 0 := UInt8.toNat_inj.1 hk0
   have hT : Zz l = (⟨0, [], []⟩, 1, 0) := by
    have := takeCont_back (c := ⟨0, [], []⟩) (by decide) ⟨by simp, by simp⟩ (l.drop 1)
    rw [g0, hy]; exact this
   have hR := right_spec ρ ⟨none, 0, 0, none, 0, 0⟩ ⟨0, [], []⟩ CIn.nil (by simp) (by simp)
   rw [show ZN ⟨0, [], []⟩ = true by decide] at hR
   subst hy
   repeat' (first | (refine Zd (.func 13) ?_; refine qC rfl rfl (hR) ?_; rintro v ρ' L' hle ⟨rfl, rfl, rfl⟩ <;> (try simp only [kM, kN, kO])) | (refine iBu ?_; refine Yb (Zy rfl) rfl rfl ?_) | (refine Zg ?_; first | (refine Ze ?_; refine qQ ?_) | refine Zj ?_) | refine Za ?_ | (refine Zh ?_; refine Zq ?_) | (refine Zi ?_; refine Zr ?_) | intro _)
   exact qE (L' := []) ⟨Hp.le_refl _, ⟨⟨0, [], []⟩, ⟨none, 0, 0, none, 0, 0⟩, 1, 0, rfl, ⟨fun e => by rw [hT], fun _ => rfl⟩, fun _ => ⟨CIn.nil, by rw [hT], by rw [hT]⟩⟩, rfl⟩
  ·by_cases h2 : n < 2
   ·have hno : (Zz l).2.2 ≠ 0 := fun e => by
     rcases contK e with ⟨r, e1, _⟩ | ⟨_, r, e1, _⟩ | ⟨_, r, e1, _⟩
     ·rw [g0] at e1
      have := (List.cons.inj e1).1
      subst this
      exact hk0 (by decide)
     all_goals
      have := congrArg List.length e1
      simp only [List.length_cons] at this
      omega
    repeat' (first | (refine iBu ?_; refine Yb (Zy rfl) rfl rfl ?_) | (refine Zg ?_; first | (refine Ze ?_; refine qQ ?_) | refine Zj ?_) | refine Za ?_ | (refine Zh ?_; refine Zq ?_) | (refine Zi ?_; refine Zr ?_) | intro _)
    exact qE (L' := []) ⟨Hp.le_refl _, ⟨⟨0, [], []⟩, ⟨none, 0, 0, none, 0, 0⟩, 0, 7, rfl, ⟨fun e => absurd e (by decide), fun e => absurd e hno⟩, fun e => absurd e (by decide)⟩, rfl⟩
   obtain ⟨b', off', C', T', fr', e', hb', hc1⟩ := h.get (show 1 < l.length by omega)
   cases e'
   cases hbb.symm.trans hb'
   have g1 : l.drop 1 = l[1]'(by omega) :: l.drop 2 := List.drop_eq_getElem_cons (show 1 < l.length by omega)
   rw [g1] at g0
   generalize l[1]'(by omega) = y1 at *
   have t1 := y1.toNat_lt
   have hy0 : y0.toNat = 1 ∨ y0.toNat = 2 := by omega
   by_cases h4 : y1.toNat ≤ 4
   ·rcases hy0 with hy | hy
    ·have hy1 : y0 = 1 := UInt8.toNat_inj.1 hy
     repeat' (first | (refine iBu ?_; refine Yb (Zy rfl) rfl rfl ?_) | (refine Zg ?_; first | (refine Ze ?_; refine qQ ?_) | refine Zj ?_) | refine Za ?_ | (refine Zh ?_; refine Zq ?_) | (refine Zi ?_; refine Zr ?_) | intro _)
     rename_i b2 b5
     refine ZB [(0, _), (2, _), (5, _), (53, _)] (fun (ζ : (Nat) × (Value) × (List Value) × (List Row) × (Nat)) => [(54, .int .u8 ζ.1), (6, .int .i64 ζ.2.2.2.2), (3, .int .i64 0), (4, .int .i64 0)]) (fun (ζ : (Nat) × (Value) × (List Value) × (List Row) × (Nat)) => ρ) (fun (ζ : (Nat) × (Value) × (List Value) × (List Row) × (Nat)) => [[(b5, .cells ⟨[.int .i64 (y0.toNat : Int), ζ.2.1, .slice none 0 0]⟩ 36 (0, 0))], Ye ζ.2.1 ((ζ.2.2.2.1.map Yp).flatten) ζ.2.2.1 65, [(b2, .cells ⟨[.int .i64 0, .slice none 0 0, .slice none 0 0]⟩ 36 (0, 0))]]) (fun (ζ : (Nat) × (Value) × (List Value) × (List Row) × (Nat)) => ζ.1 ≤ y1.toNat ∧ ζ.2.2.2.1.length = ζ.1 ∧ (∀ r ∈ ζ.2.2.2.1, YI r = true ∧ XC r) ∧ ζ.2.2.2.2 = 2 + (ζ.2.2.2.1.flatMap ZL).length ∧ ζ.2.2.2.2 ≤ n ∧ l.drop 2 = ζ.2.2.2.1.flatMap ZL ++ l.drop ζ.2.2.2.2 ∧ OwnS ζ.2.1 ζ.1 ((ζ.2.2.2.1.map Yp).flatten) ζ.2.2.1 4) (fun (ζ : (Nat) × (Value) × (List Value) × (List Row) × (Nat)) => y1.toNat - ζ.1) ((0, .slice none 0 0, [], [], 2)) (⟨Nat.zero_le _, rfl, by simp, rfl, by show 2 ≤ n; omega, by simp, OwnS.nil 4⟩) Zm Zm rfl tk ?_
     rintro ⟨k, vv, sp, RS, m⟩ hI
     try simp only [List.cons_append, List.nil_append, List.append_assoc, List.append_eq] at hI ⊢
     try dsimp only at hI ⊢
     obtain ⟨hk, hRl, hRo, hm, hmn, hd, hown⟩ := hI
     obtain ⟨va, vc, rfl, _⟩ := hown.slice
     have hfitC : ∀ r ∈ RS, r.id < 65536 := fun r hr => (hRo r hr).2.id
     by_cases hlt : k < y1.toNat
     ·have hsub := h.sub (lo' := (m : Int).toNat) (hi' := n) (by omega) (Nat.le_refl _) (cap := c) hc
      have hsl : ((l.drop (m : Int).toNat).take (n - (m : Int).toNat)) = l.drop m := by rw [Int.toNat_natCast, List.take_of_length_le (by rw [List.length_drop]; omega)]
      rw [hsl] at hsub
      have htr := takeRowD_spec ρ _ (n - (m : Int).toNat) (c - (m : Int).toNat) (l.drop m) hsub (by omega) (by omega)
      have hno := rows_no (l := l) (y1 := y1) (RS := RS) (m := m) (by rw [← hy1]; exact g0) hRo (by omega) hd
      by_cases hW : Ww (l.drop m)
      ·obtain ⟨hok, hfit, heq, hlen⟩ := rowW_ok hW
       have htr2 : Spec Tryz.prog 86 [.slice (if c = (m : Int).toNat then some ⟨b, off, none⟩ else (some ⟨b, off, none⟩ : Option Addr).map (·.add ((m : Int).toNat * 1))) (n - (m : Int).toNat) (c - (m : Int).toNat)] ρ [] (fun v ρ' L' => v = .tuple ⟨[.agg ⟨Yp (rowW (l.drop m))⟩, .int .i64 ((12 + bAt (l.drop m) 11 : Nat) : Int), .int .i64 0]⟩ ∧ ρ' = ρ ∧ L' = []) := by
        refine htr.mono ?_
        rintro v ρ' L' _ ⟨⟨x, kk, e, q1, q2, q3⟩, q4, q5⟩
        obtain ⟨rfl, rfl⟩ := q3 hW
        exact ⟨by rw [q1, q2.2 hW], q4, q5⟩
       have hml : m + (12 + bAt (l.drop m) 11) ≤ n := by have := hW.2.2.2; rw [List.length_drop] at this; omega
       rw [← hlen] at htr2 hml
       have hdd : l.drop (m + (ZL (rowW (l.drop m))).length) = (l.drop m).drop (12 + bAt (l.drop m) 11) := by rw [List.drop_drop, hlen]
       generalize rowW (l.drop m) = row at *
       rw [← hdd] at heq
       repeat' (first | (refine Zd (.func 86) ?_; refine qC rfl rfl (htr2) ?_; rintro v ρ' L' hle ⟨rfl, rfl, rfl⟩ <;> (try simp only [kM, kN, kO])) | (refine XB (css := [Yp row]) (sz := 4) rfl rfl rfl rfl (by simp) (by simp) rfl (fun bs => ?_); simp only [List.flatten_cons, List.flatten_nil, List.append_nil]) | (refine Yh (ys := Yp row) (m := 1) rfl rfl hown (hR := by repeat (first | exact Yi | apply Yf)) SrcV.lit rfl rfl (by decide) rfl (by omega) (by omega) rfl (fun v3 sp3 hown3 => ?_); obtain ⟨va3, vc3, rfl, _⟩ := hown3.slice) | (refine iBu ?_; refine Yb (Zy rfl) rfl rfl ?_) | (refine Zg ?_; first | (refine Ze ?_; refine qQ ?_) | refine Zj ?_) | refine Za ?_ | (refine Zh ?_; refine Zq ?_) | (refine Zi ?_; refine Zr ?_) | intro _)
       have hm1 : (RS.map Yp).flatten ++ Yp row = ((RS ++ [row]).map Yp).flatten := by simp
       rw [hm1] at hown3 ⊢
       refine Zp (k + 1, .slice va3 (k + 1) vc3, sp3, RS ++ [row], m + (ZL row).length) (⟨hlt, by rw [List.length_append, hRl]; rfl, fun r hr => (List.mem_append.1 hr).elim (hRo r) (fun hr => by rw [List.mem_singleton.1 hr]; exact ⟨hok, hfit⟩), by dsimp only; rw [List.flatMap_append, List.length_append, List.flatMap_singleton]; omega, hml, by rw [hd, List.flatMap_append, List.flatMap_singleton, List.append_assoc, ← heq], hown3⟩) Zm Zm rfl tk inferInstance (by first | omega | (dsimp only; omega))
      ·repeat' (first | (refine Zd (.func 86) ?_; refine qC rfl rfl (htr) ?_; rintro v ρ' L' hle ⟨⟨x, kk, e, rfl, he, _⟩, rfl, rfl⟩ <;> (try simp only [kM, kN, kO])) | (refine iBu ?_; refine Yb (Zy rfl) rfl rfl ?_) | (refine Zg ?_; first | (refine Ze ?_; refine qQ ?_) | refine Zj ?_) | refine Za ?_ | (refine Zh ?_; refine Zq ?_) | (refine Zi ?_; refine Zr ?_) | intro _)
       have hne : e ≠ 0 := fun q => hW (he.1 q)
       have hcb : (e != 0) = true := by simpa using hne
       rw [hcb]
       repeat' (first | (refine iBu ?_; refine Yb (Zy rfl) rfl rfl ?_) | (refine Zg ?_; first | (refine Ze ?_; refine qQ ?_) | refine Zj ?_) | refine Za ?_ | (refine Zh ?_; refine Zq ?_) | (refine Zi ?_; refine Zr ?_) | intro _)
       exact qE (L' := []) ⟨Hp.le_refl _, ⟨⟨0, [], []⟩, ⟨none, 0, 0, none, 0, 0⟩, 0, e, rfl, ⟨fun q => absurd q hne, fun q => absurd q (hno hW)⟩, fun q => absurd q hne⟩, rfl⟩
     ·have hend := rows_end (l := l) (y1 := y1) (RS := RS) (m := m) (by rw [← hy1]; exact g0) hRo (by omega) hd
      refine Wf (Ye (.slice va k vc) ((RS.map Yp).flatten) sp 65) (fun ρ3 hle3 hfz => ?_)
      obtain ⟨sa, sc, f1, hsc, hA⟩ := hown.aIn hRl (fun x _ => rowV_len x) hfz
      cases f1
      clear hfz
      have hCI : CIn ρ3 ⟨va, k, vc, none, 0, 0⟩ RS [] := ⟨hA, AIn.nil, by dsimp only; omega, Nat.zero_le _, hsc, Nat.le_refl _⟩
      have hR : Spec Tryz.prog 13 [.agg ⟨[.int .i64 (y0.toNat : Int), .slice va k vc, .slice none 0 0]⟩] ρ3 [] (fun r ρ' L' => r = .bool (ZN ⟨1, RS, []⟩) ∧ ρ' = ρ3 ∧ L' = []) := by
       rw [hy]
       exact right_spec ρ3 ⟨va, k, vc, none, 0, 0⟩ ⟨1, RS, []⟩ hCI hfitC (by simp)
      cases hok : ZN ⟨1, RS, []⟩
      ·rw [hok] at hR
       have hno := hend.2 hok
       repeat' (first | (refine Zd (.func 13) ?_; refine qC rfl rfl (hR) ?_; rintro v ρ' L' hle ⟨rfl, rfl, rfl⟩ <;> (try simp only [kM, kN, kO])) | (refine iBu ?_; refine Yb (Zy rfl) rfl rfl ?_) | (refine Zg ?_; first | (refine Ze ?_; refine qQ ?_) | refine Zj ?_) | refine Za ?_ | (refine Zh ?_; refine Zq ?_) | (refine Zi ?_; refine Zr ?_) | intro _)
       exact qE (L' := []) (hle := hle3) ⟨hle3, ⟨⟨0, [], []⟩, ⟨none, 0, 0, none, 0, 0⟩, 0, 161, rfl, ⟨fun e => absurd e (by decide), fun e => absurd e hno⟩, fun e => absurd e (by decide)⟩, rfl⟩
      ·rw [hok] at hR
       have hT := hend.1 hok
       repeat' (first | (refine Zd (.func 13) ?_; refine qC rfl rfl (hR) ?_; rintro v ρ' L' hle ⟨rfl, rfl, rfl⟩ <;> (try simp only [kM, kN, kO])) | (refine iBu ?_; refine Yb (Zy rfl) rfl rfl ?_) | (refine Zg ?_; first | (refine Ze ?_; refine qQ ?_) | refine Zj ?_) | refine Za ?_ | (refine Zh ?_; refine Zq ?_) | (refine Zi ?_; refine Zr ?_) | intro _)
       rw [hy]
       exact qE (L' := []) (hle := hle3) ⟨hle3, ⟨⟨1, RS, []⟩, ⟨va, k, vc, none, 0, 0⟩, m, 0, rfl, ⟨fun e => by rw [hT], fun _ => rfl⟩, fun _ => ⟨hCI, by rw [hT], by rw [hT, hm]⟩⟩, rfl⟩
    ·have hy1 : y0 = 2 := UInt8.toNat_inj.1 hy
     repeat' (first | (refine iBu ?_; refine Yb (Zy rfl) rfl rfl ?_) | (refine Zg ?_; first | (refine Ze ?_; refine qQ ?_) | refine Zj ?_) | refine Za ?_ | (refine Zh ?_; refine Zq ?_) | (refine Zi ?_; refine Zr ?_) | intro _)
     rename_i b2 b5
     refine ZB [(0, _), (2, _), (5, _), (53, _)] (fun (ζ : (Nat) × (Value) × (List Value) × (List Kid) × (Nat)) => [(54, .int .u8 ζ.1), (6, .int .i64 ζ.2.2.2.2), (3, .int .i64 0), (4, .int .i64 0)]) (fun (ζ : (Nat) × (Value) × (List Value) × (List Kid) × (Nat)) => ρ) (fun (ζ : (Nat) × (Value) × (List Value) × (List Kid) × (Nat)) => [[(b5, .cells ⟨[.int .i64 (y0.toNat : Int), .slice none 0 0, ζ.2.1]⟩ 36 (0, 0))], Ye ζ.2.1 ((ζ.2.2.2.1.map YY).flatten) ζ.2.2.1 82, [(b2, .cells ⟨[.int .i64 0, .slice none 0 0, .slice none 0 0]⟩ 36 (0, 0))]]) (fun (ζ : (Nat) × (Value) × (List Value) × (List Kid) × (Nat)) => ζ.1 ≤ y1.toNat ∧ ζ.2.2.2.1.length = ζ.1 ∧ (∀ r ∈ ζ.2.2.2.1, KidFt r) ∧ ζ.2.2.2.2 = 2 + (ζ.2.2.2.1.flatMap Yj).length ∧ ζ.2.2.2.2 ≤ n ∧ l.drop 2 = ζ.2.2.2.1.flatMap Yj ++ l.drop ζ.2.2.2.2 ∧ OwnS ζ.2.1 ζ.1 ((ζ.2.2.2.1.map YY).flatten) ζ.2.2.1 3) (fun (ζ : (Nat) × (Value) × (List Value) × (List Kid) × (Nat)) => y1.toNat - ζ.1) ((0, .slice none 0 0, [], [], 2)) (⟨Nat.zero_le _, rfl, by simp, rfl, by show 2 ≤ n; omega, by simp, OwnS.nil 3⟩) Zm Zm rfl tk ?_
     rintro ⟨k, vv, sp, KS, m⟩ hI
     try simp only [List.cons_append, List.nil_append, List.append_assoc, List.append_eq] at hI ⊢
     try dsimp only at hI ⊢
     obtain ⟨hk, hKl, hKo, hm, hmn, hd, hown⟩ := hI
     obtain ⟨va, vc, rfl, _⟩ := hown.slice
     have hfitC : ∀ r ∈ KS, r.id < 65536 := fun r hr => (hKo r hr).2.1
     by_cases hlt : k < y1.toNat
     ·by_cases hs : n < m + 4
      ·have hno := kids_no (l := l) (y1 := y1) (KS := KS) (m := m) (by rw [← hy1]; exact g0) hKo (by omega) hd (by omega)
       repeat' (first | (refine iBu ?_; refine Yb (Zy rfl) rfl rfl ?_) | (refine Zg ?_; first | (refine Ze ?_; refine qQ ?_) | refine Zj ?_) | refine Za ?_ | (refine Zh ?_; refine Zq ?_) | (refine Zi ?_; refine Zr ?_) | intro _)
       exact qE (L' := []) ⟨Hp.le_refl _, ⟨⟨0, [], []⟩, ⟨none, 0, 0, none, 0, 0⟩, 0, 7, rfl, ⟨fun q => absurd q (by decide), fun q => absurd q hno⟩, fun q => absurd q (by decide)⟩, rfl⟩
      ·have hsub := h.sub (lo' := (m : Int).toNat) (hi' := n) (by omega) (Nat.le_refl _) (cap := c) hc
       have hsl : ((l.drop (m : Int).toNat).take (n - (m : Int).toNat)) = l.drop m := by rw [Int.toNat_natCast, List.take_of_length_le (by rw [List.length_drop]; omega)]
       rw [hsl] at hsub
       have htk := takenD_spec ρ _ (n - (m : Int).toNat) (c - (m : Int).toNat) (l.drop m) hsub (by omega)
       obtain ⟨hKf, hKe⟩ := kidW_ok (l := l.drop m) (by rw [List.length_drop]; omega)
       rw [List.drop_drop] at hKe
       obtain ⟨b4, off4, C4, T4, fr4, e4, hb4, hc4⟩ := h.get (show ((m : Int) + 3).toNat < l.length by omega)
       cases e4
       cases hbb.symm.trans hb4
       have hb3 : Zs (l[((m : Int) + 3).toNat]'(by omega)) = .int .u8 (bAt (l.drop m) 3 : Nat) := by
        have : (l[((m : Int) + 3).toNat]'(by omega)).toNat = bAt (l.drop m) 3 := by
         rw [← bAt_get (l.drop m) 3 (by rw [List.length_drop]; omega), List.getElem_drop]
         congr 2
        rw [Zs, this]
       rw [hb3] at hc4
       have hb3l := bAt_lt (l.drop m) 3
       have hkv : YY (kidW (l.drop m)) = [.int .i64 (bAt (l.drop m) 0 : Nat), .int .u16 (bAt (l.drop m) 1 * 256 + bAt (l.drop m) 2 : Nat), .int .i64 (bAt (l.drop m) 3 : Nat)] := rfl
       have hkl := WM (kidW (l.drop m))
       generalize kidW (l.drop m) = kid at *
       generalize bAt (l.drop m) 0 = q0 at *
       generalize bAt (l.drop m) 1 * 256 + bAt (l.drop m) 2 = q1 at *
       generalize bAt (l.drop m) 3 = q3 at *
       repeat' (first | (refine iBu ?_; refine Yb (Zy rfl) rfl rfl ?_) | (refine Zg ?_; first | (refine Ze ?_; refine qQ ?_) | refine Zj ?_) | refine Za ?_ | (refine Zh ?_; refine Zq ?_) | (refine Zi ?_; refine Zr ?_) | intro _)
       refine tc_phase 15 (Zo _ _ ([[(b5, .cells ⟨[.int .i64 (y0.toNat : Int), .slice none 0 0, .slice va k vc]⟩ 36 (0, 0))]])) (by decide +kernel) (Zx (hT := tk) (Hp.le_refl _)) ?_
       simp only [List.take_succ_cons, List.take_zero]
       all_goals (refine rFa 0 ?_; refine rLd 1 ?_; refine ZO 2 ?_; refine ZO 3 ?_; refine rSl 4 ?_; refine ZO 6 ?_; refine ZO 7 ?_; refine rAd 8 ?_; refine rIa 9 ?_; refine rLd 10 ?_; refine rCv 11 ?_)
       all_goals (refine Zn (i := 5) ?_; ((try refine Zk ?_); (first | (refine Zd (.func 87) ?_; refine qC rfl rfl (htk) ?_; rintro v ρ' L' hle ⟨rfl, rfl, rfl⟩ <;> (try simp only [kM, kN, kO])) | (refine Zj ?_; try intro _)) <;> ((try simp only [kM, kN, kO]); refine Za ?_; refine Zl ?_)))
       all_goals refine rBu 12 ?_ (y := fun _ _ => Zy rfl)
       all_goals (refine Zn (i := 13) ?_; ((try refine Zk ?_); (first | (refine XB (css := [[.int .i64 (q0 : Nat), .int .u16 (q1 : Nat), .int .i64 (q3 : Nat)]]) (sz := 3) rfl rfl rfl rfl (by simp) (by simp) rfl (fun bs => ?_); simp only [List.flatten_cons, List.flatten_nil, List.append_nil]) | (refine Zj ?_; try intro _)) <;> ((try simp only [kM, kN, kO]); refine Za ?_; refine Zl ?_)))
       all_goals (refine Zn (i := 14) ?_; ((try refine Zk ?_); (first | (refine XB (css := [[.int .i64 (q0 : Nat), .int .u16 (q1 : Nat), .int .i64 (q3 : Nat)]]) (sz := 3) rfl rfl rfl rfl (by simp) (by simp) rfl (fun bs => ?_); simp only [List.flatten_cons, List.flatten_nil, List.append_nil]) | (refine Yh (ys := [.int .i64 (q0 : Nat), .int .u16 (q1 : Nat), .int .i64 (q3 : Nat)]) (m := 1) rfl rfl hown (hR := by repeat (first | exact Yi | apply Yf)) SrcV.lit rfl rfl (by decide) rfl (by omega) (by omega) rfl (fun v3 sp3 hown3 => ?_); obtain ⟨va3, vc3, rfl, _⟩ := hown3.slice) | (refine Zj ?_; try intro _)) <;> ((try simp only [kM, kN, kO]); refine Za ?_; refine Zl ?_)))
       all_goals refine ZH ?_
       all_goals refine te_phase (fuel := 2) (m := [true, true, true, true, true, true, true, true, true, true, true, true, true, true, true, false, false]) (Zo _ _ ([])) rfl rfl (Zx (hT := tk) (Hp.le_refl _)) ?_
       all_goals refine rFa 15 ?_
       all_goals (refine Zn (i := 16) ?_; ((try refine Zk ?_); (first | (refine Zj ?_; try intro _)) <;> ((try simp only [kM, kN, kO]); refine Za ?_; refine Zl ?_)))
       all_goals refine ZH ?_
       all_goals (repeat' (first | (refine iBu ?_; refine Yb (Zy rfl) rfl rfl ?_) | (refine Zg ?_; first | (refine Ze ?_; refine qQ ?_) | refine Zj ?_) | refine Za ?_ | (refine Zh ?_; refine Zq ?_) | (refine Zi ?_; refine Zr ?_) | intro _))
       all_goals
        have hm1 : (KS.map YY).flatten ++ YY kid = ((KS ++ [kid]).map YY).flatten := by simp
        rw [← hkv, hm1] at hown3 ⊢
       all_goals refine Zp (k + 1, .slice va3 (k + 1) vc3, sp3, KS ++ [kid], m + 4) (⟨hlt, by rw [List.length_append, hKl]; rfl, fun r hr => (List.mem_append.1 hr).elim (hKo r) (fun hr => by rw [List.mem_singleton.1 hr]; exact hKf), by dsimp only; rw [List.flatMap_append, List.length_append, List.flatMap_singleton]; omega, by dsimp only; omega, by dsimp only; rw [hd, List.flatMap_append, List.flatMap_singleton, List.append_assoc, ← hKe], hown3⟩) Zm Zm rfl tk inferInstance (by first | omega | (dsimp only; omega))
     ·have hend := kids_end (l := l) (y1 := y1) (KS := KS) (m := m) (by rw [← hy1]; exact g0) hKo (by omega) hd
      refine Wf (Ye (.slice va k vc) ((KS.map YY).flatten) sp 82) (fun ρ3 hle3 hfz => ?_)
      obtain ⟨sa, sc, f1, hsc, hA⟩ := hown.aIn hKl (fun x _ => kidV_len x) hfz
      cases f1
      clear hfz
      have hCI : CIn ρ3 ⟨none, 0, 0, va, k, vc⟩ [] KS := ⟨AIn.nil, hA, Nat.zero_le _, by dsimp only; omega, Nat.le_refl _, hsc⟩
      have hR : Spec Tryz.prog 13 [.agg ⟨[.int .i64 (y0.toNat : Int), .slice none 0 0, .slice va k vc]⟩] ρ3 [] (fun r ρ' L' => r = .bool (ZN ⟨2, [], KS⟩) ∧ ρ' = ρ3 ∧ L' = []) := by
       rw [hy]
       exact right_spec ρ3 ⟨none, 0, 0, va, k, vc⟩ ⟨2, [], KS⟩ hCI (by simp) hfitC
      cases hok : ZN ⟨2, [], KS⟩
      ·rw [hok] at hR
       have hno := hend.2 hok
       repeat' (first | (refine Zd (.func 13) ?_; refine qC rfl rfl (hR) ?_; rintro v ρ' L' hle ⟨rfl, rfl, rfl⟩ <;> (try simp only [kM, kN, kO])) | (refine iBu ?_; refine Yb (Zy rfl) rfl rfl ?_) | (refine Zg ?_; first | (refine Ze ?_; refine qQ ?_) | refine Zj ?_) | refine Za ?_ | (refine Zh ?_; refine Zq ?_) | (refine Zi ?_; refine Zr ?_) | intro _)
       exact qE (L' := []) (hle := hle3) ⟨hle3, ⟨⟨0, [], []⟩, ⟨none, 0, 0, none, 0, 0⟩, 0, 161, rfl, ⟨fun e => absurd e (by decide), fun e => absurd e hno⟩, fun e => absurd e (by decide)⟩, rfl⟩
      ·rw [hok] at hR
       have hT := hend.1 hok
       repeat' (first | (refine Zd (.func 13) ?_; refine qC rfl rfl (hR) ?_; rintro v ρ' L' hle ⟨rfl, rfl, rfl⟩ <;> (try simp only [kM, kN, kO])) | (refine iBu ?_; refine Yb (Zy rfl) rfl rfl ?_) | (refine Zg ?_; first | (refine Ze ?_; refine qQ ?_) | refine Zj ?_) | refine Za ?_ | (refine Zh ?_; refine Zq ?_) | (refine Zi ?_; refine Zr ?_) | intro _)
       rw [hy]
       exact qE (L' := []) (hle := hle3) ⟨hle3, ⟨⟨2, [], KS⟩, ⟨none, 0, 0, va, k, vc⟩, m, 0, rfl, ⟨fun e => by rw [hT], fun _ => rfl⟩, fun _ => ⟨hCI, by rw [hT], by rw [hT, hm]⟩⟩, rfl⟩
   ·have hno : (Zz l).2.2 ≠ 0 := fun e => by
     rcases contK e with ⟨r, e1, _⟩ | ⟨rs, r, e1, e2, _⟩ | ⟨rs, r, e1, e2, _⟩
     ·rw [g0] at e1
      have := (List.cons.inj e1).1
      subst this
      exact hk0 (by decide)
     all_goals
      rw [g0] at e1
      have := (List.cons.inj (List.cons.inj e1).2).1
      subst this
      simp only [UInt8.toNat_ofNat'] at h4
      omega
    rcases hy0 with hy | hy
    all_goals (repeat' (first | (refine iBu ?_; refine Yb (Zy rfl) rfl rfl ?_) | (refine Zg ?_; first | (refine Ze ?_; refine qQ ?_) | refine Zj ?_) | refine Za ?_ | (refine Zh ?_; refine Zq ?_) | (refine Zi ?_; refine Zr ?_) | intro _))
    all_goals exact qE (L' := []) ⟨Hp.le_refl _, ⟨⟨0, [], []⟩, ⟨none, 0, 0, none, 0, 0⟩, 0, 161, rfl, ⟨fun e => absurd e (by decide), fun e => absurd e hno⟩, fun e => absurd e (by decide)⟩, rfl⟩
 ·have hno : (Zz l).2.2 ≠ 0 := fun e => by
   rcases contK e with ⟨r, e1, _⟩ | ⟨_, r, e1, _⟩ | ⟨_, r, e1, _⟩
   all_goals
    rw [g0] at e1
    have := (List.cons.inj e1).1
    subst this
    exact hk2 (by decide)
  repeat' (first | (refine iBu ?_; refine Yb (Zy rfl) rfl rfl ?_) | (refine Zg ?_; first | (refine Ze ?_; refine qQ ?_) | refine Zj ?_) | refine Za ?_ | (refine Zh ?_; refine Zq ?_) | (refine Zi ?_; refine Zr ?_) | intro _)
  exact qE (L' := []) ⟨Hp.le_refl _, ⟨⟨0, [], []⟩, ⟨none, 0, 0, none, 0, 0⟩, 0, 161, rfl, ⟨fun e => absurd e (by decide), fun e => absurd e hno⟩, fun e => absurd e (by decide)⟩, rfl⟩
theorem saysF_dat (num : Nat) (a b : Blk) : ZM num a b = if 83 < (a.getD 18 0).toNat then zSl else
   ⟨ZP ((a.drop 2).take 8), ZP ((a.drop 10).take 8), (Zz ((((a.drop 18).take 42 ++ (b.drop 18).take 42).drop 1).take (a.getD 18 0).toNat)).1,
   decide ((Zz ((((a.drop 18).take 42 ++ (b.drop 18).take 42).drop 1).take (a.getD 18 0).toNat)).2.2 = 0 ∧ (Zz ((((a.drop 18).take 42 ++ (b.drop 18).take 42).drop 1).take (a.getD 18 0).toNat)).2.1 = (a.getD 18 0).toNat ∧ 0 < ZP ((a.drop 2).take 8) ∧
    ZE num (ZP ((a.drop 2).take 8)) (ZP ((a.drop 10).take 8)) (Zz ((((a.drop 18).take 42 ++ (b.drop 18).take 42).drop 1).take (a.getD 18 0).toNat)).1 0 ++ ZE num (ZP ((a.drop 2).take 8)) (ZP ((a.drop 10).take 8)) (Zz ((((a.drop 18).take 42 ++ (b.drop 18).take 42).drop 1).take (a.getD 18 0).toNat)).1 1 = a ++ b), 0⟩ := rfl
theorem slotF_no {num : Nat} {a b : Blk} (h : (ZM num a b).right = false) : slotF num a b = zTri := by unfold slotF; rw [if_neg (by simp [h])]
theorem slotF_yes {num : Nat} {a b : Blk} (h : (ZM num a b).right = true) : slotF num a b = triS (ZM num a b) := by unfold slotF; rw [if_pos h]
section
variable {x : Cx} {E : Env} {ρ ρ0 : Hp} {L : SH} {v : Value}
theorem res4 {fn : Func} {r s t q : ResultVar} {v u z y : Value} (h : fn.results = #[r, s, t, q]) (h1 : R1 x E ρ L r v) (h2 : R1 x E ρ L s u) (h3 : R1 x E ρ L t z) (h4 : R1 x E ρ L q y) : ∀ a w, Ok x.D x.N E a → Sat x.u ρ L w → (results fn a.tmps).run x.P w = .ok (.tuple ⟨[v, u, z, y]⟩) w := fun a w ha hw => by
 rw [results_eq, h]
 simp [h1.run ha hw, h2.run ha hw, h3.run ha hw, h4.run ha hw]
theorem qE4 {e : Exit} {fn : Func} {u : World} {R : SH} {Post : Value → Hp → SH → Prop} {L' G : SH} (hp : Post v ρ L')
  (hr : ∀ a w, Ok x.D x.N E a → Sat x.u ρ L w → (results fn a.tmps).run x.P w = .ok v w := by exact res4 rfl (ZY rfl) (ZY rfl) (ZV rfl rfl) (ZY rfl))
  (hle : ρ0.le ρ := by first | assumption | exact Hp.le_refl _ | (refine Hp.le_trans ?_ (by assumption); assumption) | solve_by_elim (maxDepth := 6) [Hp.le_trans]) (k : Xa L L' G := by exact tk) (en : WH G R := by infer_instance) (he : isEnd e = true := by rfl) (hD : x.D = [] := by rfl) (hu : x.u = u := by rfl) :
  TE x e (bodyPostM (Fw none) 0 x.P fn (RK u ρ0 R Post)) E ρ L := te_end he hD hu hr hle k en hp
end
theorem slot14_spec (ρ : Hp) (num : Nat) (hnum : num < 64) (a b : Blk) (ha : a.length = 64) (hb : b.length = 64) :
  Spec Tryz.prog 38 [.agg ⟨(a ++ b).map Zs⟩, .int .i64 num] ρ [] (fun v ρ' L' => ρ.le ρ' ∧ ∃ w, v = .tuple ⟨[.int .u64 ((slotF num a b).1 : Nat), .int .u64 ((slotF num a b).2.1 : Nat), .agg ⟨Yt (slotF num a b).2.2.kind w⟩, .bool (ZM num a b).right]⟩ ∧ CIn ρ' w (slotF num a b).2.2.rows (slotF num a b).2.2.kids ∧ L' = []) := by
 have hab : ((a ++ b).map Zs).length = 128 := by simp [ha, hb]
 have hone := ZI (a ++ b)
 refine Zf Tryz.func38 rfl rfl rfl fun u R => ?_
 simp only [Zv, List.cons_append, List.nil_append]
 repeat' (first | (refine iBu ?_; refine Yb (Zy rfl) rfl rfl ?_) | (refine Zg ?_; first | (refine Ze ?_; refine qQ ?_) | refine Zj ?_) | refine Za ?_ | (refine Zh ?_; refine Zq ?_) | (refine Zi ?_; refine Zr ?_) | intro _)
 rename_i b2 b6
 refine Wf [(b2, .cells ⟨(a ++ b).map Zs⟩ 52 (0, 0))] (h := by infer_instance) (fun ρ1 hl1 hfz => ?_)
 have hbs := hfz _ (List.mem_singleton.2 rfl)
 dsimp only at hbs
 have hs2 := WQ hbs 2 8 (by simp; omega)
 have hs10 := WQ hbs 10 8 (by simp; omega)
 have e2 : ((a ++ b).drop 2).take 8 = (a.drop 2).take 8 := by rw [List.drop_append_of_le_length (by omega), List.take_append_of_le_length (by simp; omega)]
 have e10 : ((a ++ b).drop 10).take 8 = (a.drop 10).take 8 := by rw [List.drop_append_of_le_length (by omega), List.take_append_of_le_length (by simp; omega)]
 rw [e2] at hs2
 rw [e10] at hs10
 refine ZD (Zo _ _ ([])) (Zx (hT := tk) (Hp.le_refl _)) ?_
 all_goals (refine rIa 0 ?_; refine rSl 1 ?_; refine rIa 3 ?_; refine rSl 4 ?_)
 all_goals (refine Zn (i := 2) ?_; ((try refine Zk ?_); (first | (refine Zd (.func 40) ?_; refine qC rfl rfl (Xt _ _ 8 _ _ hs2 (by omega)) ?_; rintro v ρ' L' hle ⟨rfl, rfl, rfl⟩ <;> (try simp only [kM, kN, kO])) | (refine Zd (.func 40) ?_; refine qC rfl rfl (Xt _ _ 8 _ _ hs10 (by omega)) ?_; rintro v ρ' L' hle ⟨rfl, rfl, rfl⟩ <;> (try simp only [kM, kN, kO])) | (refine Zj ?_; try intro _)) <;> ((try simp only [kM, kN, kO]); refine Za ?_; refine Zl ?_)))
 all_goals (refine Zn (i := 5) ?_; ((try refine Zk ?_); (first | (refine Zd (.func 40) ?_; refine qC rfl rfl (Xt _ _ 8 _ _ hs2 (by omega)) ?_; rintro v ρ' L' hle ⟨rfl, rfl, rfl⟩ <;> (try simp only [kM, kN, kO])) | (refine Zd (.func 40) ?_; refine qC rfl rfl (Xt _ _ 8 _ _ hs10 (by omega)) ?_; rintro v ρ' L' hle ⟨rfl, rfl, rfl⟩ <;> (try simp only [kM, kN, kO])) | (refine Zj ?_; try intro _)) <;> ((try simp only [kM, kN, kO]); refine Za ?_; refine Zl ?_)))
 all_goals (refine ZR ?_; refine rAs 6 ?_; refine rAs 7 ?_; refine ZH ?_)
 obtain ⟨dat, hdat⟩ : ∃ dat, dat = (a.drop 18).take 42 ++ (b.drop 18).take 42 := ⟨_, rfl⟩
 have hdl : dat.length = 84 := by rw [hdat]; simp; omega
 have hsF := saysF_dat num a b
 rw [← hdat] at hsF
 have hst8 := Wy (a.drop 2)
 have hls8 := Wy (a.drop 10)
 have hno := @slotF_no num a b
 have hyes := @slotF_yes num a b
 generalize ZM num a b = S at *
 generalize slotF num a b = T at *
 generalize ZP ((a.drop 2).take 8) = st at *
 generalize ZP ((a.drop 10).take 8) = ls at *
 have hld : List.take 128 (List.drop 0 ((a ++ b).map Zs)) = (a ++ b).map Zs := by rw [List.drop_zero, List.take_of_length_le (by omega)]
 repeat' (first | (refine iBu ?_; refine Yb (Zy rfl) rfl rfl ?_) | (refine Zg ?_; first | (refine Ze ?_; refine qQ ?_) | refine Zj ?_) | refine Za ?_ | (refine Zh ?_; refine Zq ?_) | (refine Zi ?_; refine Zr ?_) | intro _)
 refine ZB [(1, _), (2, _), (4, _), (5, _), (6, _), (7, _), (8, _), (9, _), (23, _)] (fun (ζ : (Nat) × (Hp) × (Value) × (List Value)) => [(24, .int .i64 ζ.1), (10, ζ.2.2.1)]) (fun (ζ : (Nat) × (Hp) × (Value) × (List Value)) => ζ.2.1) (fun (ζ : (Nat) × (Hp) × (Value) × (List Value)) => [Ye ζ.2.2.1 ((dat.take (42 * ζ.1)).map Zs) ζ.2.2.2 5]) (fun (ζ : (Nat) × (Hp) × (Value) × (List Value)) => ζ.1 ≤ 2 ∧ ρ'.le ζ.2.1 ∧ OwnS ζ.2.2.1 (42 * ζ.1) ((dat.take (42 * ζ.1)).map Zs) ζ.2.2.2 1) (fun (ζ : (Nat) × (Hp) × (Value) × (List Value)) => 2 - ζ.1) ((0, ρ', .slice none 0 0, [])) (⟨Nat.zero_le _, Hp.le_refl _, OwnS.nil 1⟩) Zm Zm rfl tk ?_
 rintro ⟨i, ρ5, v, sp⟩ hI
 try simp only [List.cons_append, List.nil_append, List.append_assoc, List.append_eq] at hI ⊢
 try dsimp only at hI ⊢
 obtain ⟨hi, hl5, hown⟩ := hI
 by_cases hlt : i < 2
 ·have hnx : ((dat.take (42 * i)).map Zs ++ ((((if i = 0 then a else b).drop 18).take 42).map Zs)) = (dat.take (42 * (i + 1))).map Zs := by
   have hla : ((a.drop 18).take 42).length = 42 := by simp; omega
   have hlb : ((b.drop 18).take 42).length = 42 := by simp; omega
   rcases (show i = 0 ∨ i = 1 by omega) with rfl | rfl
   ·rw [hdat]
    simp only [Nat.mul_zero, List.take_zero, List.map_nil, List.nil_append]
    rw [List.take_left' hla]; rfl
   ·rw [List.take_of_length_le (show dat.length ≤ 42 * (1 + 1) by omega), hdat, List.take_left' (by omega), List.map_append]; rfl
  have hix := two_at ha hb hlt
  have hbl : (if i = 0 then a else b).length = 64 := by split <;> assumption
  generalize (if i = 0 then a else b) = blk at *
  have hb64 : (blk.map Zs).length = 64 := by simpa using hbl
  have hbo := ZI blk
  have hsub : ((blk.map Zs).drop 18).take 42 = ((blk.drop 18).take 42).map Zs := by rw [List.map_take, List.map_drop]
  have hsl : (((blk.drop 18).take 42).map Zs).length = 42 := by simp; omega
  repeat' (first | (refine Yb (y_index_a rfl rfl hlt hix) rfl rfl ?_) | (simp only [show Int.toNat 60 - Int.toNat 18 = 42 from rfl, show 0 + Int.toNat 18 * 1 = 18 from rfl]; refine Yh (ys := ((blk.drop 18).take 42).map Zs) (m := 42) (sz := 1) rfl rfl hown (hR := by infer_instance) (SrcV.find hsub) hsl (ZI _) (by decide) rfl (by omega) (by omega) rfl (fun v7 sp7 hown7 => ?_); rw [hnx] at hown7 ⊢) | (refine iBu ?_; refine Yb (Zy rfl) rfl rfl ?_) | (refine Zg ?_; first | (refine Ze ?_; refine qQ ?_) | refine Zj ?_) | refine Za ?_ | (refine Zh ?_; refine Zq ?_) | (refine Zi ?_; refine Zr ?_) | intro _)
  refine Zp (i + 1, ρ5, v7, sp7) (⟨hlt, hl5, hown7⟩) Zm Zm rfl tk inferInstance (by first | omega | (dsimp only; omega))
 ·have h2 : i = 2 := by omega
  subst h2
  rw [List.take_of_length_le (show dat.length ≤ 42 * 2 by omega)] at hown ⊢
  refine Wf (Ye v (dat.map Zs) sp 5) (h := by infer_instance) (fun ρ6 hl6 hfz6 => ?_)
  obtain ⟨a7, c7, rfl, hc7, hs7⟩ := hown.sIn hfz6
  obtain ⟨bx, ox, Cx', Tx, frx, rfl, hbx, hcx⟩ := hs7.get (i := 0) (by omega)
  have hda : dat[0]'(by omega) = a.getD 18 0 := by
   simp only [hdat]
   rw [List.getElem_append_left (by simp; omega), List.getElem_take, List.getElem_drop]
   rw [List.getD_eq_getElem?_getD, List.getElem?_eq_getElem (by omega)]; rfl
  rw [hda] at hcx
  have hdlt := (a.getD 18 0).toNat_lt
  generalize a.getD 18 0 = d8 at *
  have hcx2 : Cx'[ox + Int.toNat 0 * 1]? = some (Zs d8) := hcx
  have hl46 : ρ.le ρ6 := Hp.le_trans hl1 (Hp.le_trans hl5 hl6)
  by_cases hgo : ¬ (83 < d8.toNat) ∧ 0 < st
  ·obtain ⟨hbig, h3⟩ := hgo
   rw [if_neg hbig] at hsF
   have h3' : ¬ ((st : Nat) : Int) = 0 := by omega
   have hsub := hs7.sub (lo' := 1) (hi' := 1 + d8.toNat) (by omega) (by omega) (cap := c7) (by omega)
   rw [show 1 + d8.toNat - 1 = d8.toNat by omega] at hsub
   have htc := takeContD_spec _ _ d8.toNat (c7 - 1) _ hsub (by omega) (by omega)
   have hok := @WC ((dat.drop 1).take d8.toNat)
   generalize Zz ((dat.drop 1).take d8.toNat) = r at *
   obtain ⟨cc, kk, ec⟩ := r
   dsimp only at hsF htc hok
   have hq1 : ((1 : Int) + (d8.toNat : Int)).toNat - Int.toNat 1 = d8.toNat := by omega
   repeat' (first | (simp only [hq1]; refine Zd (.func 64) ?_; refine qC rfl rfl htc ?_; rintro v8 ρ8 L8 hle8 ⟨hl8, ⟨x8, w, k8, e8, rfl, he8, hC⟩, rfl⟩; simp only [List.cons_append, List.nil_append]) | (refine iBu ?_; refine Yb (Zy rfl) rfl rfl ?_) | (refine Zg ?_; first | (refine Ze ?_; refine qQ ?_) | refine Zj ?_) | refine Za ?_ | (refine Zh ?_; refine Zq ?_) | (refine Zi ?_; refine Zr ?_) | intro _)
   have hl48 := Hp.le_trans hl46 hl8
   rename_i b14
   by_cases h1 : ec = 0
   ·have h8 := he8.2 h1
    obtain ⟨hCI, rfl, rfl⟩ := hC h8
    obtain ⟨n1, rfl, _, hco, _, hcf⟩ := hok h1
    have hir : ∀ r ∈ x8.rows, r.id < 65536 := fun r hr => (hcf.row r hr).id
    have hik : ∀ k ∈ x8.kids, k.id < 65536 := fun k hk => (hcf.kid k hk).id
    have hb8 := Hp.at' (Hp.le_trans hl5 (Hp.le_trans hl6 hl8)) hbs
    by_cases h2 : (n1 : Int) = d8.toNat
    ·have hEq : EqC Tryz.prog 8 52 (.agg ⟨(ZE num st ls x8 0 ++ ZE num st ls x8 1).map Zs⟩) (.agg ⟨(a ++ b).map Zs⟩) (decide (ZE num st ls x8 0 ++ ZE num st ls x8 1 = a ++ b)) := eqC_two (m := 5) _ _ _ _ (Ya _ _ _ _ (by omega)) (Ya _ _ _ _ (by omega)) ha hb
     have hpa := parts14_spec _ num hnum st ls hst8 hls8 w x8 hCI hco hir hik
     by_cases h4 : ZE num st ls x8 0 ++ ZE num st ls x8 1 = a ++ b
     ·rw [decide_eq_true h4] at hEq
      have hv : S.right = true := by rw [hsF]; exact decide_eq_true ⟨h1, h2, h3, h4⟩
      have hT := hyes hv
      rw [hsF] at hT
      cases hT
      rw [hv]
      refine ZD (Zo _ _ _) ZZ ?_
      all_goals (refine ZO 0 ?_; refine rCm 1 ?_; refine ZO 2 ?_; (first | refine Zc 3 ?_ | refine Zb 3 ?_ | refine ZU 3 ?_); (first | refine Zc 4 ?_ | refine Zb 4 ?_ | refine ZU 4 ?_); (first | refine Zc 5 ?_ | refine Zb 5 ?_ | refine wCm 5 ?_); refine rPk 6 ?_; refine ZO 7 ?_; (first | refine Zc 8 ?_ | refine Zb 8 ?_ | refine ZU 8 ?_); (first | refine Zc 9 ?_ | refine Zb 9 ?_ | refine ZU 9 ?_); (first | refine Zc 10 ?_ | refine Zb 10 ?_ | refine ZU 10 ?_); (first | refine Zc 11 ?_ | refine Zb 11 ?_ | refine wLd 11 ?_); (first | refine Zc 13 ?_ | refine Zb 13 ?_ | refine wLd 13 ?_))
      all_goals (first | refine Zc 12 ?_ | refine Zb 12 ?_ | (refine Zn (i := 12) ?_; ((try refine Zk ?_); (first | (refine Zd (.func 19) ?_; refine qC rfl rfl hpa ?_; rintro v9 ρ9 L9 hle9 ⟨rfl, hl9, rfl⟩; simp only [List.cons_append, List.nil_append]) | (refine Zj ?_; try intro _)) <;> ((try simp only [kM, kN, kO]); refine Za ?_; refine Zl ?_))))
      all_goals (refine ZR ?_; (first | refine Zc 14 ?_ | refine Zb 14 ?_ | refine wCm 14 ?_); refine rPk 15 ?_; refine ZH ?_)
      all_goals (repeat' (first | (refine iBu ?_; refine Yb (Zy rfl) rfl rfl ?_) | (refine Zg ?_; first | (refine Ze ?_; refine qQ ?_) | refine Zj ?_) | refine Za ?_ | (refine Zh ?_; refine Zq ?_) | (refine Zi ?_; refine Zr ?_) | intro _))
      all_goals dsimp only [triS]
      all_goals have hfin := Hp.le_trans hl48 hl9
      all_goals refine ZD (Zo _ _ ([[(b14, .cells ⟨Yt x8.kind w⟩ 36 (0, 0))]])) (Zx (hT := tk) (Hp.le_refl _)) ?_
      all_goals (refine ZO 0 ?_; refine ZO 1 ?_; refine rLd 2 ?_; refine rAs 3 ?_; refine rAs 4 ?_)
      all_goals (refine Zn (i := 5) ?_; ((try refine Zk ?_); (first | (refine Zj ?_; try intro _)) <;> ((try simp only [kM, kN, kO]); refine Za ?_; refine Zl ?_)))
      all_goals (refine ZR ?_; refine rAs 6 ?_; refine ZH ?_)
      all_goals (repeat' (first | (refine iBu ?_; refine Yb (Zy rfl) rfl rfl ?_) | (refine Zg ?_; first | (refine Ze ?_; refine qQ ?_) | refine Zj ?_) | refine Za ?_ | (refine Zh ?_; refine Zq ?_) | (refine Zi ?_; refine Zr ?_) | intro _))
      all_goals exact qE4 (L' := []) ⟨hfin, w, rfl, hCI.mono hl9, rfl⟩
     ·rw [decide_eq_false h4] at hEq
      have hv : S.right = false := by rw [hsF]; exact decide_eq_false (fun hh => h4 hh.2.2.2)
      cases hno hv
      rw [hv]
      refine ZD (Zo _ _ _) ZZ ?_
      all_goals (refine ZO 0 ?_; refine rCm 1 ?_; refine ZO 2 ?_; (first | refine Zc 3 ?_ | refine Zb 3 ?_ | refine ZU 3 ?_); (first | refine Zc 4 ?_ | refine Zb 4 ?_ | refine ZU 4 ?_); (first | refine Zc 5 ?_ | refine Zb 5 ?_ | refine wCm 5 ?_); refine rPk 6 ?_; refine ZO 7 ?_; (first | refine Zc 8 ?_ | refine Zb 8 ?_ | refine ZU 8 ?_); (first | refine Zc 9 ?_ | refine Zb 9 ?_ | refine ZU 9 ?_); (first | refine Zc 10 ?_ | refine Zb 10 ?_ | refine ZU 10 ?_); (first | refine Zc 11 ?_ | refine Zb 11 ?_ | refine wLd 11 ?_); (first | refine Zc 13 ?_ | refine Zb 13 ?_ | refine wLd 13 ?_))
      all_goals (first | refine Zc 12 ?_ | refine Zb 12 ?_ | (refine Zn (i := 12) ?_; ((try refine Zk ?_); (first | (refine Zd (.func 19) ?_; refine qC rfl rfl hpa ?_; rintro v9 ρ9 L9 hle9 ⟨rfl, hl9, rfl⟩; simp only [List.cons_append, List.nil_append]) | (refine Zj ?_; try intro _)) <;> ((try simp only [kM, kN, kO]); refine Za ?_; refine Zl ?_))))
      all_goals (refine ZR ?_; (first | refine Zc 14 ?_ | refine Zb 14 ?_ | refine wCm 14 ?_); refine rPk 15 ?_; refine ZH ?_)
      all_goals (repeat' (first | (refine iBu ?_; refine Yb (Zy rfl) rfl rfl ?_) | (refine Zg ?_; first | (refine Ze ?_; refine qQ ?_) | refine Zj ?_) | refine Za ?_ | (refine Zh ?_; refine Zq ?_) | (refine Zi ?_; refine Zr ?_) | intro _))
      all_goals have hfin := Hp.le_trans hl48 hl9
      all_goals exact qE4 (L' := []) ⟨hfin, zCV, rfl, CIn.nil, rfl⟩
    ·have hv : S.right = false := by rw [hsF]; exact decide_eq_false (fun hh => h2 hh.2.1)
     cases hno hv
     rw [hv]
     refine ZD (Zo _ _ _) ZZ ?_
     all_goals (refine ZO 0 ?_; refine rCm 1 ?_; refine ZO 2 ?_; (first | refine Zc 3 ?_ | refine Zb 3 ?_ | refine ZU 3 ?_); (first | refine Zc 4 ?_ | refine Zb 4 ?_ | refine ZU 4 ?_); (first | refine Zc 5 ?_ | refine Zb 5 ?_ | refine wCm 5 ?_); refine rPk 6 ?_; refine ZO 7 ?_; (first | refine Zc 8 ?_ | refine Zb 8 ?_ | refine ZU 8 ?_); (first | refine Zc 9 ?_ | refine Zb 9 ?_ | refine ZU 9 ?_); (first | refine Zc 10 ?_ | refine Zb 10 ?_ | refine ZU 10 ?_); (first | refine Zc 11 ?_ | refine Zb 11 ?_ | refine wLd 11 ?_); (first | refine Zc 13 ?_ | refine Zb 13 ?_ | refine wLd 13 ?_))
     all_goals (first | refine Zc 12 ?_ | refine Zb 12 ?_ | (refine Zn (i := 12) ?_; ((try refine Zk ?_); (first | (refine Zj ?_; try intro _)) <;> ((try simp only [kM, kN, kO]); refine Za ?_; refine Zl ?_))))
     all_goals (refine ZR ?_; (first | refine Zc 14 ?_ | refine Zb 14 ?_ | refine wCm 14 ?_); refine rPk 15 ?_; refine ZH ?_)
     all_goals (repeat' (first | (refine iBu ?_; refine Yb (Zy rfl) rfl rfl ?_) | (refine Zg ?_; first | (refine Ze ?_; refine qQ ?_) | refine Zj ?_) | refine Za ?_ | (refine Zh ?_; refine Zq ?_) | (refine Zi ?_; refine Zr ?_) | intro _))
     all_goals exact qE4 (L' := []) ⟨hl48, zCV, rfl, CIn.nil, rfl⟩
   ·have hv : S.right = false := by rw [hsF]; exact decide_eq_false (fun hh => h1 hh.1)
    cases hno hv
    rw [hv]
    have h8 : ¬ e8 = 0 := fun e => h1 (he8.1 e)
    refine ZD (Zo _ _ _) ZZ ?_
    all_goals (refine ZO 0 ?_; refine rCm 1 ?_; refine ZO 2 ?_; (first | refine Zc 3 ?_ | refine Zb 3 ?_ | refine ZU 3 ?_); (first | refine Zc 4 ?_ | refine Zb 4 ?_ | refine ZU 4 ?_); (first | refine Zc 5 ?_ | refine Zb 5 ?_ | refine wCm 5 ?_); refine rPk 6 ?_; refine ZO 7 ?_; (first | refine Zc 8 ?_ | refine Zb 8 ?_ | refine ZU 8 ?_); (first | refine Zc 9 ?_ | refine Zb 9 ?_ | refine ZU 9 ?_); (first | refine Zc 10 ?_ | refine Zb 10 ?_ | refine ZU 10 ?_); (first | refine Zc 11 ?_ | refine Zb 11 ?_ | refine wLd 11 ?_); (first | refine Zc 13 ?_ | refine Zb 13 ?_ | refine wLd 13 ?_))
    all_goals (first | refine Zc 12 ?_ | refine Zb 12 ?_ | (refine Zn (i := 12) ?_; ((try refine Zk ?_); (first | (refine Zj ?_; try intro _)) <;> ((try simp only [kM, kN, kO]); refine Za ?_; refine Zl ?_))))
    all_goals (refine ZR ?_; (first | refine Zc 14 ?_ | refine Zb 14 ?_ | refine wCm 14 ?_); refine rPk 15 ?_; refine ZH ?_)
    all_goals (repeat' (first | (refine iBu ?_; refine Yb (Zy rfl) rfl rfl ?_) | (refine Zg ?_; first | (refine Ze ?_; refine qQ ?_) | refine Zj ?_) | refine Za ?_ | (refine Zh ?_; refine Zq ?_) | (refine Zi ?_; refine Zr ?_) | intro _))
    all_goals exact qE4 (L' := []) ⟨hl48, zCV, rfl, CIn.nil, rfl⟩
  ·have hR : S.right = false := by
    rw [hsF]
    split
    ·rfl
    ·exact decide_eq_false (fun hh => hgo ⟨by assumption, hh.2.2.1⟩)
   cases hno hR
   have hq : (st : Int) = 0 ∨ (¬ (st : Int) = 0 ∧ (83 : Int) < d8.toNat) := by omega
   rw [hR]
   rcases hq with h0 | ⟨h0, h1⟩
   ·repeat' (first | (refine iBu ?_; refine Yb (Zy rfl) rfl rfl ?_) | (refine Zg ?_; first | (refine Ze ?_; refine qQ ?_) | refine Zj ?_) | refine Za ?_ | (refine Zh ?_; refine Zq ?_) | (refine Zi ?_; refine Zr ?_) | intro _)
    exact qE4 (L' := []) ⟨hl46, zCV, rfl, CIn.nil, rfl⟩
   ·repeat' (first | (refine iBu ?_; refine Yb (Zy rfl) rfl rfl ?_) | (refine Zg ?_; first | (refine Ze ?_; refine qQ ?_) | refine Zj ?_) | refine Za ?_ | (refine Zh ?_; refine Zq ?_) | (refine Zi ?_; refine Zr ?_) | intro _)
    exact qE4 (L' := []) ⟨hl46, zCV, rfl, CIn.nil, rfl⟩
theorem counts14_spec (ρ : Hp) (num : Nat) (hnum : num < 64) (a0 b0 a1 b1 : Blk) (ha0 : a0.length = 64) (hb0 : b0.length = 64) (ha1 : a1.length = 64) (hb1 : b1.length = 64) :
  Spec Tryz.prog 17 [.agg ⟨(a0 ++ b0).map Zs⟩, .agg ⟨(a1 ++ b1).map Zs⟩, .int .i64 num] ρ [] (fun v ρ' L' => ρ.le ρ' ∧ ∃ w, v = .tuple ⟨[.int .u64 ((cntF num a0 b0 a1 b1).1 : Nat), .int .u64 ((cntF num a0 b0 a1 b1).2.1 : Nat), .agg ⟨Yt (cntF num a0 b0 a1 b1).2.2.kind w⟩, .int .i64 (whichF num a0 b0 a1 b1)]⟩ ∧ CIn ρ' w (cntF num a0 b0 a1 b1).2.2.rows (cntF num a0 b0 a1 b1).2.2.kids ∧ L' = []) := by
 have hab : ((a0 ++ b0).map Zs).length = 128 := by simp [ha0, hb0]
 have hab1 : ((a1 ++ b1).map Zs).length = 128 := by simp [ha1, hb1]
 have hone := ZI (a0 ++ b0)
 have hone1 := ZI (a1 ++ b1)
 have hS0 := slot14_spec (num := num) (a := a0) (b := b0) (hnum := hnum) (ha := ha0) (hb := hb0)
 have hS1 := slot14_spec (num := num) (a := a1) (b := b1) (hnum := hnum) (ha := ha1) (hb := hb1)
 have hn0 := @slotF_no num a0 b0
 have hy0 := @slotF_yes num a0 b0
 have hn1 := @slotF_no num a1 b1
 have hy1 := @slotF_yes num a1 b1
 have hc : cntF num a0 b0 a1 b1 = if whichF num a0 b0 a1 b1 = 0 then triS (ZM num a0 b0) else if whichF num a0 b0 a1 b1 = 1 then triS (ZM num a1 b1) else zTri := rfl
 have hw : whichF num a0 b0 a1 b1 = if (ZM num a0 b0).right = true ∧ ((ZM num a1 b1).right = false ∨ (ZM num a1 b1).stamp ≤ (ZM num a0 b0).stamp) then 0
   else if (ZM num a1 b1).right = true then 1 else -1 := rfl
 generalize cntF num a0 b0 a1 b1 = C at *
 generalize whichF num a0 b0 a1 b1 = W at *
 generalize ZM num a0 b0 = s0 at *
 generalize ZM num a1 b1 = s1 at *
 generalize slotF num a0 b0 = T0 at *
 generalize slotF num a1 b1 = T1 at *
 refine Zf Tryz.func17 rfl rfl rfl fun u R => ?_
 simp only [Zv, List.cons_append, List.nil_append]
 repeat' (first | (refine Zd (.func 38) ?_; refine qC rfl rfl ((hS0 _)) ?_; rintro v ρ' L' hle ⟨hl1, w0, rfl, hC0, rfl⟩ <;> (try simp only [kM, kN, kO])) | (refine Zd (.func 38) ?_; refine qC rfl rfl ((hS1 _)) ?_; rintro v ρ' L' hle ⟨hl2, w1, rfl, hC1, rfl⟩ <;> (try simp only [kM, kN, kO])) | (refine iBu ?_; refine Yb (Zy rfl) rfl rfl ?_) | (refine Zg ?_; first | (refine Ze ?_; refine qQ ?_) | refine Zj ?_) | refine Za ?_ | (refine Zh ?_; refine Zq ?_) | (refine Zi ?_; refine Zr ?_) | intro _)
 rename_i b3 b4 b8 ρm hlem b12 b16
 have hl := Hp.le_trans hl1 hl2
 have hC0' := hC0.mono hl2
 cases hr0 : s0.right
 ·cases hn0 hr0
  cases hr1 : s1.right
  ·cases hn1 hr1
   obtain rfl : W = -1 := by rw [hw]; simp [hr0, hr1]
   obtain rfl : C = zTri := by rw [hc]; simp
   repeat' (first | (refine iBu ?_; refine Yb (Zy rfl) rfl rfl ?_) | (refine Zg ?_; first | (refine Ze ?_; refine qQ ?_) | refine Zj ?_) | refine Za ?_ | (refine Zh ?_; refine Zq ?_) | (refine Zi ?_; refine Zr ?_) | intro _)
   exact qE4 (L' := []) ⟨hl, zCV, rfl, CIn.nil, rfl⟩
  ·cases hy1 hr1
   obtain rfl : W = 1 := by rw [hw]; simp [hr0, hr1]
   obtain rfl : C = triS s1 := by rw [hc]; simp
   dsimp only [triS] at hC1 ⊢
   repeat' (first | (refine iBu ?_; refine Yb (Zy rfl) rfl rfl ?_) | (refine Zg ?_; first | (refine Ze ?_; refine qQ ?_) | refine Zj ?_) | refine Za ?_ | (refine Zh ?_; refine Zq ?_) | (refine Zi ?_; refine Zr ?_) | intro _)
   refine ZD (Zo _ _ ([[(b16, .cells ⟨Yt s1.c.kind w1⟩ 36 (0, 0))]])) (Zx (hT := tk) (Hp.le_refl _)) ?_
   all_goals (refine ZO 0 ?_; refine ZO 1 ?_; refine rLd 2 ?_; refine rAs 3 ?_; refine rAs 4 ?_)
   all_goals (refine Zn (i := 5) ?_; ((try refine Zk ?_); (first | (refine Zj ?_; try intro _)) <;> ((try simp only [kM, kN, kO]); refine Za ?_; refine Zl ?_)))
   all_goals (refine ZR ?_; refine rAs 6 ?_; refine ZH ?_)
   all_goals (repeat' (first | (refine iBu ?_; refine Yb (Zy rfl) rfl rfl ?_) | (refine Zg ?_; first | (refine Ze ?_; refine qQ ?_) | refine Zj ?_) | refine Za ?_ | (refine Zh ?_; refine Zq ?_) | (refine Zi ?_; refine Zr ?_) | intro _))
   all_goals exact qE4 (L' := []) ⟨hl, w1, rfl, hC1, rfl⟩
 ·cases hy0 hr0
  cases hr1 : s1.right
  ·cases hn1 hr1
   obtain rfl : W = 0 := by rw [hw]; simp [hr0, hr1]
   obtain rfl : C = triS s0 := by rw [hc]; simp
   dsimp only [triS] at hC0' ⊢
   repeat' (first | (refine iBu ?_; refine Yb (Zy rfl) rfl rfl ?_) | (refine Zg ?_; first | (refine Ze ?_; refine qQ ?_) | refine Zj ?_) | refine Za ?_ | (refine Zh ?_; refine Zq ?_) | (refine Zi ?_; refine Zr ?_) | intro _)
   refine ZD (Zo _ _ ([[(b12, .cells ⟨Yt s0.c.kind w0⟩ 36 (0, 0))]])) (Zx (hT := tk) (Hp.le_refl _)) ?_
   all_goals (refine ZO 0 ?_; refine ZO 1 ?_; refine rLd 2 ?_; refine rAs 3 ?_; refine rAs 4 ?_)
   all_goals (refine Zn (i := 5) ?_; ((try refine Zk ?_); (first | (refine Zj ?_; try intro _)) <;> ((try simp only [kM, kN, kO]); refine Za ?_; refine Zl ?_)))
   all_goals (refine ZR ?_; refine rAs 6 ?_; refine ZH ?_)
   all_goals (repeat' (first | (refine iBu ?_; refine Yb (Zy rfl) rfl rfl ?_) | (refine Zg ?_; first | (refine Ze ?_; refine qQ ?_) | refine Zj ?_) | refine Za ?_ | (refine Zh ?_; refine Zq ?_) | (refine Zi ?_; refine Zr ?_) | intro _))
   all_goals exact qE4 (L' := []) ⟨hl, w0, rfl, hC0', rfl⟩
  ·cases hy1 hr1
   dsimp only [triS] at hC0' hC1 ⊢
   by_cases hle5 : s1.stamp ≤ s0.stamp
   ·have hq : ((s1.stamp : Nat) : Int) ≤ ((s0.stamp : Nat) : Int) := by omega
    obtain rfl : W = 0 := by rw [hw]; simp [hr0, hr1, hle5]
    obtain rfl : C = triS s0 := by rw [hc]; simp
    dsimp only [triS]
    repeat' (first | (refine iBu ?_; refine Yb (Zy rfl) rfl rfl ?_) | (refine Zg ?_; first | (refine Ze ?_; refine qQ ?_) | refine Zj ?_) | refine Za ?_ | (refine Zh ?_; refine Zq ?_) | (refine Zi ?_; refine Zr ?_) | intro _)
    refine ZD (Zo _ _ ([[(b12, .cells ⟨Yt s0.c.kind w0⟩ 36 (0, 0))]])) (Zx (hT := tk) (Hp.le_refl _)) ?_
    all_goals (refine ZO 0 ?_; refine ZO 1 ?_; refine rLd 2 ?_; refine rAs 3 ?_; refine rAs 4 ?_)
    all_goals (refine Zn (i := 5) ?_; ((try refine Zk ?_); (first | (refine Zj ?_; try intro _)) <;> ((try simp only [kM, kN, kO]); refine Za ?_; refine Zl ?_)))
    all_goals (refine ZR ?_; refine rAs 6 ?_; refine ZH ?_)
    all_goals (repeat' (first | (refine iBu ?_; refine Yb (Zy rfl) rfl rfl ?_) | (refine Zg ?_; first | (refine Ze ?_; refine qQ ?_) | refine Zj ?_) | refine Za ?_ | (refine Zh ?_; refine Zq ?_) | (refine Zi ?_; refine Zr ?_) | intro _))
    all_goals exact qE4 (L' := []) ⟨hl, w0, rfl, hC0', rfl⟩
   ·have hq : ¬ ((s1.stamp : Nat) : Int) ≤ ((s0.stamp : Nat) : Int) := by omega
    obtain rfl : W = 1 := by rw [hw]; simp [hr0, hr1, hle5]
    obtain rfl : C = triS s1 := by rw [hc]; simp
    dsimp only [triS]
    repeat' (first | (refine iBu ?_; refine Yb (Zy rfl) rfl rfl ?_) | (refine Zg ?_; first | (refine Ze ?_; refine qQ ?_) | refine Zj ?_) | refine Za ?_ | (refine Zh ?_; refine Zq ?_) | (refine Zi ?_; refine Zr ?_) | intro _)
    refine ZD (Zo _ _ ([[(b16, .cells ⟨Yt s1.c.kind w1⟩ 36 (0, 0))]])) (Zx (hT := tk) (Hp.le_refl _)) ?_
    all_goals (refine ZO 0 ?_; refine ZO 1 ?_; refine rLd 2 ?_; refine rAs 3 ?_; refine rAs 4 ?_)
    all_goals (refine Zn (i := 5) ?_; ((try refine Zk ?_); (first | (refine Zj ?_; try intro _)) <;> ((try simp only [kM, kN, kO]); refine Za ?_; refine Zl ?_)))
    all_goals (refine ZR ?_; refine rAs 6 ?_; refine ZH ?_)
    all_goals (repeat' (first | (refine iBu ?_; refine Yb (Zy rfl) rfl rfl ?_) | (refine Zg ?_; first | (refine Ze ?_; refine qQ ?_) | refine Zj ?_) | refine Za ?_ | (refine Zh ?_; refine Zq ?_) | (refine Zi ?_; refine Zr ?_) | intro _))
    all_goals exact qE4 (L' := []) ⟨hl, w1, rfl, hC1, rfl⟩
theorem FO.mono {D : DS} {base t t' : Nat} {held : Nat → Held} (h : FO D base t held) (ht : t ≤ t') : FO D base t' held :=
 ⟨h.dok, h.alive, h.empty, h.len, fun num j h1 h2 => (h.sec num j h1 h2).mono ht, h.held⟩
theorem csD_most {D : DS} {base t : Nat} {held : Nat → Held} (h : FO D base t held) {num : Nat} (hn : num < 64) (ht : t < M64) : (csD D base num).most ≤ t ∧ (csD D base num).other < 2 ∧ ∀ j, j < 4 → YA (pg D base num j) ≤ (csD D base num).most := by
 obtain ⟨_, e2, e3⟩ := cs2_eq num (pg D base num 0) (pg D base num 1) (pg D base num 2) (pg D base num 3)
 have s0 := (h.sec num 0 hn (by omega)).stamp (by omega) hn ht
 have s1 := (h.sec num 1 hn (by omega)).stamp (by omega) hn ht
 have s2 := (h.sec num 2 hn (by omega)).stamp (by omega) hn ht
 have s3 := (h.sec num 3 hn (by omega)).stamp (by omega) hn ht
 simp only [Nat.zero_mod, show 1 % 2 = 1 from rfl, show 2 % 2 = 0 from rfl, show 3 % 2 = 1 from rfl] at s0 s1 s2 s3
 unfold csD
 unfold YN at e3
 rw [s0.1, s1.1, s2.1, s3.1] at e3
 have ho : (cs2 num (pg D base num 0) (pg D base num 1) (pg D base num 2) (pg D base num 3)).other < 2 := by
  rw [e2]; repeat' split
  all_goals omega
 refine ⟨by rw [e3]; omega, ho, fun j hj => ?_⟩
 rw [e3]
 rcases (show j = 0 ∨ j = 1 ∨ j = 2 ∨ j = 3 by omega) with rfl | rfl | rfl | rfl <;> omega
theorem FO.wrote {D D2 : DS} {base t : Nat} {held : Nat → Held} (h : FO D base t held) {num lsn : Nat} {c : Yr} (hn : num < 64) (hc : Fit c) (hl : lsn < M64) (ht : t + 1 < M64)
  (hok : D2.Ok) (ha : D2.dead = false) (he : YX D2.secs) (hlen : D2.secs.length = D.secs.length)
  (hi : ∀ i, img D2 i = img D i ∨ ∃ p ∈ Ys (base + 4 * num + 2 * (csD D base num).other) (ZE num ((csD D base num).most + 1) lsn c 0) (ZE num ((csD D base num).most + 1) lsn c 1), p.1 = i ∧ img D2 i = p.2) :
  ∃ v, (v = held num ∨ v = (c, lsn)) ∧ FO D2 base (t + 1) (upd held num v) ∧
   (img D2 (base + 4 * num + 2 * (csD D base num).other) = ZE num ((csD D base num).most + 1) lsn c 0 → img D2 (base + 4 * num + 2 * (csD D base num).other + 1) = ZE num ((csD D base num).most + 1) lsn c 1 → v = (c, lsn)) := by
 obtain ⟨m1, m2, m3⟩ := csD_most h hn (by omega)
 have hsec := fun j hj => (h.sec num j hn hj).least (by omega) (by omega) (m3 j hj)
 have hheld := h.held num hn
 have hat : ∀ j, j < 4 → pg D2 base num j = pg D base num j ∨ (csD D base num).other = j / 2 ∧ pg D2 base num j = ZE num ((csD D base num).most + 1) lsn c (j % 2) := fun j hj => by
  rcases hi (base + 4 * num + j) with h1 | ⟨p, hp, h2, h3⟩
  ·exact .inl h1
  ·right
   simp only [Ys, List.mem_cons, List.not_mem_nil, or_false] at hp
   rcases hp with rfl | rfl
   ·have hj2 : j = 2 * (csD D base num).other := by dsimp only at h2; omega
    refine ⟨by omega, ?_⟩
    rw [show j % 2 = 0 by omega]; exact h3
   ·have hj2 : j = 2 * (csD D base num).other + 1 := by dsimp only at h2; omega
    refine ⟨by omega, ?_⟩
    rw [show j % 2 = 1 by omega]; exact h3
 have hw := E.wrote (x0 := pg D2 base num 0) (y0 := pg D2 base num 1) (x1 := pg D2 base num 2) (y1 := pg D2 base num 3) hn hc hl (hsec 0 (by omega)) (hsec 1 (by omega)) (hsec 2 (by omega)) (hsec 3 (by omega)) rfl (by omega) (hat 0 (by omega)) (hat 1 (by omega)) (hat 2 (by omega)) (hat 3 (by omega))
 have hoth : ∀ m, m < 64 → m ≠ num → ∀ j, j < 4 → pg D2 base m j = pg D base m j := fun m hm hne j hj => by
  rcases hi (base + 4 * m + j) with h1 | ⟨p, hp, h2, h3⟩
  ·exact h1
  ·exfalso
   simp only [Ys, List.mem_cons, List.not_mem_nil, or_false] at hp
   rcases hp with rfl | rfl <;> dsimp only at h2 <;> omega
 have hfo : ∀ v, Wj (csD D2 base num) = v → FO D2 base (t + 1) (upd held num v) := fun v hv => by
  refine ⟨hok, ha, he, by rw [hlen]; exact h.len, fun m j hm hj => ?_, fun m hm => ?_⟩
  ·by_cases hmn : m = num
   ·subst hmn
    rcases hat j hj with h1 | ⟨_, h2⟩
    ·rw [h1]; exact (h.sec m j hm hj).mono (by omega)
    ·rw [h2]; exact .inr ⟨_, _, _, by omega, by omega, rfl⟩
   ·rw [hoth m hm hmn j hj]; exact (h.sec m j hm hj).mono (by omega)
  ·unfold upd
   by_cases hmn : m = num
   ·subst hmn; rw [if_pos rfl]; exact hv
   ·rw [if_neg hmn, ← h.held m hm]
    unfold csD
    rw [hoth m hm hmn 0 (by omega), hoth m hm hmn 1 (by omega), hoth m hm hmn 2 (by omega), hoth m hm hmn 3 (by omega)]
 refine ⟨Wj (csD D2 base num), ?_, hfo _ rfl, fun p1 p2 => ?_⟩
 ·rcases hw.1 with h1 | h1
  ·left; rw [← hheld]; exact h1
  ·exact .inr h1
 ·refine hw.2 ?_
  rcases (show (csD D base num).other = 0 ∨ (csD D base num).other = 1 by omega) with ho | ho
  ·rw [ho] at p1 p2
   rw [if_pos ho]; exact ⟨p1, p2⟩
  ·rw [ho] at p1 p2
   rw [if_neg (by rw [show (cs2 num (pg D base num 0) (pg D base num 1) (pg D base num 2) (pg D base num 3)).other = 1 from ho]; omega)]; exact ⟨p1, p2⟩
theorem FO.write {D : DS} {base t : Nat} {held : Nat → Held} (h : FO D base t held) {num lsn : Nat} {c : Yr} (hn : num < 64) (hc : Fit c) (hl : lsn < M64) (ht : t + 1 < M64) :
  ((XI D base num lsn c).2 = 0 → FO (XI D base num lsn c).1 base (t + 1) (upd held num (c, lsn))) ∧ (∀ keep, ∃ v, (v = held num ∨ v = (c, lsn)) ∧ FO ((XI D base num lsn c).1.crash keep) base (t + 1) (upd held num v)) ∧ (XI D base num lsn c).1.Ok := by
 have hln := h.len
 have hL : base + 4 * num + 4 ≤ D.secs.length := by omega
 have ha1 := countsD_alive h.empty h.alive hL
 have hs1 := WJ (D := D) (base := base) (num := num)
 have hok1 := countsD_ok (base := base) (num := num) h.dok
 have hv := countsD_val h.empty h.alive hL
 obtain ⟨m1, m2, _⟩ := csD_most h hn (by omega)
 have hf1 := h.congr (D' := (ZA D base num).2.1) hs1 hok1 ha1
 unfold XI
 by_cases he : (ZA D base num).2.2 = 0
 ·rw [if_neg (by simp [he]), hv he]
  dsimp only
  rw [if_neg (by unfold M64 at ht; omega)]
  have hW : ∀ p ∈ Ys (base + 4 * num + 2 * (csD D base num).other) (ZE num ((csD D base num).most + 1) lsn c 0) (ZE num ((csD D base num).most + 1) lsn c 1), p.1 < (ZA D base num).2.1.secs.length ∧ p.2.length = 64 := fun p hp => by
   rw [hs1]
   simp only [Ys, List.mem_cons, List.not_mem_nil, or_false] at hp
   rcases hp with rfl | rfl
   ·exact ⟨by dsimp only; omega, Ya _ _ _ _ (by omega)⟩
   ·exact ⟨by dsimp only; omega, Ya _ _ _ _ (by omega)⟩
  have hokL := DS.Ok.lays (D := (ZA D base num).2.1) hok1 (fun p hp => (hW p hp).2)
  have hlenL := XT (Ys (base + 4 * num + 2 * (csD D base num).other) (ZE num ((csD D base num).most + 1) lsn c 0) (ZE num ((csD D base num).most + 1) lsn c 1)) (ZA D base num).2.1
  have hout := lays_out (Ys (base + 4 * num + 2 * (csD D base num).other) (ZE num ((csD D base num).most + 1) lsn c 0) (ZE num ((csD D base num).most + 1) lsn c 1)) (ZA D base num).2.1 ha1 (fun p hp => (hW p hp).1)
  rw [hs1] at hlenL hout
  have hgo := fun (D2 : DS) => h.wrote (D2 := D2) hn hc hl ht
  generalize hP0 : ZE num ((csD D base num).most + 1) lsn c 0 = P0 at *
  generalize hP1 : ZE num ((csD D base num).most + 1) lsn c 1 = P1 at *
  generalize base + 4 * num + 2 * (csD D base num).other = ix at *
  generalize hr : DS.lays (Ys ix P0 P1) (ZA D base num).2.1 = r at *
  refine ⟨fun h0 => ?_, fun keep => ?_, hokL⟩
  ·rcases hout with ⟨l', hl', hs, hne⟩ | ⟨hs, _, hal⟩
   ·exact absurd h0 hne
   ·have hemp : YX r.1.secs := by rw [hs]; exact YH
    obtain ⟨v, _, hv2, hv3⟩ := hgo r.1 hokL hal hemp hlenL (fun i => img_settled h.empty hs D rfl i)
    have hall := fun {i : Nat} (hi : i < D.secs.length) => img_all (D := r.1) h.empty hs D rfl hi
    have hixl := hW (ix, P0) (by simp [Ys])
    have hixm := hW (ix + 1, P1) (by simp [Ys])
    rw [hs1] at hixl hixm
    have h1 : img r.1 ix = P0 := by
     rcases hall hixl.1 with ⟨_, hno⟩ | ⟨p, hp, h1, h2⟩
     ·exact absurd rfl (hno (ix, P0) (by simp [Ys]))
     ·simp only [Ys, List.mem_cons, List.not_mem_nil, or_false] at hp
      rcases hp with rfl | rfl
      ·exact h2
      ·dsimp only at h1; omega
    have h2 : img r.1 (ix + 1) = P1 := by
     rcases hall hixm.1 with ⟨_, hno⟩ | ⟨p, hp, h1, h2⟩
     ·exact absurd rfl (hno (ix + 1, P1) (by simp [Ys]))
     ·simp only [Ys, List.mem_cons, List.not_mem_nil, or_false] at hp
      rcases hp with rfl | rfl
      ·dsimp only at h1; omega
      ·exact h2
    rw [hv3 h1 h2] at hv2
    exact hv2
  ·have hcr : ∃ (kp : Nat → Bool) (l' : List (Nat × Blk)), l' <+: Ys ix P0 P1 ∧ (r.1.crash keep).secs = settled kp (YM D.secs l') := by
    rcases hout with ⟨l', hl', hs, hne⟩ | ⟨hs, _, hal⟩
    ·exact ⟨keep, l', hl', by simp only [DS.crash]; rw [hs]⟩
    ·refine ⟨fun _ => true, Ys ix P0 P1, List.prefix_refl _, ?_⟩
     have hemp : YX r.1.secs := by rw [hs]; exact YH
     simp only [DS.crash]
     rw [settled_empty hemp, hs]
   obtain ⟨kp, l', hl', hs⟩ := hcr
   obtain ⟨v, h1, h2, _⟩ := hgo (r.1.crash keep) hokL.crash rfl (by rw [hs]; exact YH) (by rw [hs, Yn, YW]) (fun i => by
    rcases img_settled h.empty hs D rfl i with h1 | ⟨p, hp, h2, h3⟩
    ·exact .inl h1
    ·exact .inr ⟨p, hl'.subset hp, h2, h3⟩)
   exact ⟨v, h1, h2⟩
 ·rw [if_pos he]
  refine ⟨fun h0 => absurd h0 he, fun keep => ⟨held num, .inl rfl, ?_⟩, hok1⟩
  rw [upd_self]
  exact (hf1.crash keep).mono (by omega)
theorem writeF_calm {D : DS} {base t : Nat} {held : Nat → Held} (h : FO D base t held) (hc : D.Calm) {num lsn : Nat} {c : Yr} (hn : num < 64) (ht : t + 1 < M64) : (XI D base num lsn c).2 = 0 ∧ (XI D base num lsn c).1.Calm := by
 have hln := h.len
 have hL : base + 4 * num + 4 ≤ D.secs.length := by omega
 obtain ⟨e1, e2⟩ := countsD_calm hc hL
 have hv := countsD_val h.empty h.alive hL e1
 have hs1 := WJ (D := D) (base := base) (num := num)
 obtain ⟨m1, m2, _⟩ := csD_most h hn (by omega)
 unfold XI
 rw [if_neg (by simp [e1]), hv]
 dsimp only
 rw [if_neg (by unfold M64 at ht; omega)]
 obtain ⟨l0, l1, l2⟩ := Calm_lays (Ys (base + 4 * num + 2 * (csD D base num).other) (ZE num ((csD D base num).most + 1) lsn c 0) (ZE num ((csD D base num).most + 1) lsn c 1)) (ZA D base num).2.1 e2 (fun p hp => by
  rw [hs1]
  simp only [Ys, List.mem_cons, List.not_mem_nil, or_false] at hp
  rcases hp with rfl | rfl <;> dsimp only <;> omega)
 exact ⟨l0, l1⟩
theorem FO.format {D : DS} {base : Nat} (hok : D.Ok) (hc : D.Calm) (he : YX D.secs) (hl : base + 256 ≤ D.secs.length) :
  (DS.lays (ZT base) D).2 = 0 ∧ (DS.lays (ZT base) D).1.Calm ∧ FO (DS.lays (ZT base) D).1 base 0 (fun _ => zHeld) := by
 have hidx : ∀ p ∈ ZT base, p.1 < D.secs.length := fun p hp => by
  simp only [ZT, List.mem_map, List.mem_range] at hp
  obtain ⟨k, hk, rfl⟩ := hp
  dsimp only; omega
 obtain ⟨l0, l1, l2⟩ := Calm_lays (ZT base) D hc hidx
 have hok1 := hok.lays (l := ZT base) noughtsF_64
 have himg : ∀ i, i < 256 → img (DS.lays (ZT base) D).1 (base + i) = XL := fun i hi => by
  rcases img_all he l2 D rfl (i := base + i) (by omega) with ⟨_, hno⟩ | ⟨p, hp, h1, h2⟩
  ·exact absurd rfl (hno (base + i, XL) (by simp only [ZT, List.mem_map, List.mem_range]; exact ⟨i, hi, rfl⟩))
  ·simp only [ZT, List.mem_map, List.mem_range] at hp
   obtain ⟨k, hk, rfl⟩ := hp
   exact h2
 have hpg : ∀ num j, num < 64 → j < 4 → pg (DS.lays (ZT base) D).1 base num j = XL := fun num j h1 h2 => by
  unfold pg; rw [Nat.add_assoc]; exact himg _ (by omega)
 refine ⟨l0, l1, hok1, l1.dead, by rw [l2]; exact YH, by rw [XT]; exact hl, fun num j h1 h2 => .inl (hpg num j h1 h2), fun num h1 => ?_⟩
 unfold csD
 rw [hpg num 0 h1 (by omega), hpg num 1 h1 (by omega), hpg num 2 h1 (by omega), hpg num 3 h1 (by omega), (cs2_eq num XL XL XL XL).1]
 have hr : (ZM num XL XL).right = false := by
  cases hr : (ZM num XL XL).right with
  | false => rfl
  | true =>
   have := (says_right (by rfl) (by rfl) hr).1
   rw [stamp_zblk] at this; omega
 rw [if_neg (by simp [hr]), if_neg (by simp [hr])]
abbrev leaf1 : Yr := ⟨1, [⟨0, 3, 1, []⟩], []⟩
theorem leaf1_fit : Fit leaf1 := ⟨by decide, ⟨fun r hr => by simp at hr; subst hr; exact ⟨by decide, by decide⟩, fun k hk => by simp at hk⟩⟩
theorem leaf_spec (ρ : Hp) : Spec Tryz.prog 21 [.int .i64 1] ρ [] (fun v ρ' L' => ρ.le ρ' ∧ ∃ w, v = .agg ⟨Yt 1 w⟩ ∧ CIn ρ' w leaf1.rows leaf1.kids ∧ L' = []) := by
 refine Zf Tryz.func21 rfl rfl rfl fun u R => ?_
 simp only [Zv, List.cons_append, List.nil_append]
 repeat' (first | (refine Yb (XQ (vs := [.agg ⟨[.int .i64 0, .int .u16 3]⟩, .int .i64 1]) (cells := ⟨Yp ⟨0, 3, 1, []⟩⟩) rfl rfl) rfl rfl ?_) | (refine XB (css := [Yp ⟨0, 3, 1, []⟩]) (sz := 4) rfl rfl rfl rfl (by simp) (by simp) rfl (fun bs => ?_); refine Xe [(bs, .cells ⟨([Yp ⟨0, 3, 1, []⟩] : List (List Value)).flatten⟩ 65 (0, 0))] (h := Rem.here) (fun ρ1 hl1 hfz => ?_)) | (refine Zg ?_; first | (refine Ze ?_; refine qQ ?_) | refine Zj ?_ | refine qAn ?_ | refine qXo ?_ | refine qNt ?_) | refine Za ?_ | (refine Zh ?_; refine Zq ?_) | (refine Zi ?_; refine Zr ?_) | intro _)
 have hb := hfz _ (List.mem_singleton.2 rfl)
 have hA : AIn ρ1 4 Yp (some ⟨bs, 0, none⟩) 1 leaf1.rows := ⟨rfl, .inr ⟨bs, 0, _, _, _, rfl, hb, by simp, by simp⟩, fun x hx => by simp at hx; subst hx; rfl⟩
 have hC : CIn ρ1 ⟨some ⟨bs, 0, none⟩, 1, 1, none, 0, 0⟩ leaf1.rows leaf1.kids := ⟨hA, AIn.nil, by dsimp only; omega, by dsimp only; omega, Nat.le_refl _, Nat.le_refl _⟩
 exact qE (L' := []) ⟨hl1, ⟨some ⟨bs, 0, none⟩, 1, 1, none, 0, 0⟩, rfl, hC, rfl⟩
theorem kformat14 (ρ : Hp) (db n : Nat) (k : DK) (hk : DOk k (DS.new n)) (h0 : 260 ≤ n) (h1 : n ≤ 2048) :
  Spec Tryz.prog 20 [.pointer (some ⟨db, 0, none⟩), .int .i64 4] ρ (ZF db k (DS.new n)) (fun v ρ' L' => ρ.le ρ' ∧ ∃ fb k' D', v = .tuple ⟨[.pointer (some ⟨fb, 0, none⟩), .int .i64 0]⟩ ∧ FIn ρ' fb db 4 ∧ DOk k' D' ∧ FO D' 4 0 (fun _ => zHeld) ∧ D'.Calm ∧ L' = ZF db k' D') := by
 have hsl : (DS.new n).secs.length = n := by simp [DS.new, fresh]
 obtain ⟨e0, e1, e2⟩ := FO.format (D := DS.new n) (base := 4) hk.ok new_calm fresh_empty (by omega)
 refine (Format_spec ρ db k (DS.new n) hk 4 (by omega) e0).mono ?_
 rintro v ρ' L' _ ⟨hle, fb, k', h3, h4, h5, h6⟩
 exact ⟨hle, fb, k', _, h3, h4, h5, e2, e1, h6⟩
theorem kwrite14 (ρ : Hp) (fb db num lsn t : Nat) (hf : FIn ρ fb db 4) (hn : num < 64) (hls : lsn < M64) (c : Yr) (w : CV) (hC : CIn ρ w c.rows c.kids) (hc : Fit c) (k : DK) (D : DS) (hD : DOk k D) (held : Nat → Held) (h : FO D 4 t held) (hcm : D.Calm) (ht : t + 1 < M64) :
  Spec Tryz.prog 14 [.pointer (some ⟨fb, 0, none⟩), .int .i64 num, .int .u64 lsn, .agg ⟨Yt c.kind w⟩] ρ (ZF db k D) (fun v ρ' L' => v = .int .i64 0 ∧ ρ.le ρ' ∧ ∃ k' D', DOk k' D' ∧ FO D' 4 (t + 1) (upd held num (c, lsn)) ∧ D'.Calm ∧ L' = ZF db k' D') := by
 obtain ⟨e0, e1⟩ := writeF_calm (lsn := lsn) (c := c) h hcm hn ht
 have e2 := (h.write hn hc hls ht).1 e0
 refine (Write_spec ρ fb db 4 num lsn hf (by omega) hn hls c w hC hc.ok (fun r hr => (hc.id.row r hr).id) hc.id.kid k D hD).mono ?_
 rintro v ρ' L' _ ⟨h1, h2, k', h3, h4⟩
 rw [e0] at h1
 exact ⟨h1, h2, k', _, h3, e2, e1, h4⟩
theorem kread14 (ρ : Hp) (fb db num t : Nat) (hf : FIn ρ fb db 4) (hn : num < 64) (k : DK) (D : DS) (hD : DOk k D) (held : Nat → Held) (h : FO D 4 t held) (hcm : D.Calm) :
  Spec Tryz.prog 9 [.pointer (some ⟨fb, 0, none⟩), .int .i64 num] ρ (ZF db k D) (fun v ρ' L' => ρ.le ρ' ∧ ∃ w D', v = .tuple ⟨[.agg ⟨Yt (held num).1.kind w⟩, .int .u64 ((held num).2 : Nat), .int .i64 0]⟩ ∧ CIn ρ' w (held num).1.rows (held num).1.kids ∧ DOk k D' ∧ FO D' 4 t held ∧ D'.Calm ∧ L' = ZF db k D') := by
 obtain ⟨e0, e1, e2⟩ := h.read hcm hn
 refine (Read_spec ρ fb db 4 num hf (by omega) hn k D hD).mono ?_
 rintro v ρ' L' _ ⟨h1, w, h2, h3, h4, h5⟩
 rw [e0] at h2 h3
 exact ⟨h1, w, _, h2, h3, h4, e1, e2, h5⟩
abbrev wkH : Nat → Held := upd (fun _ => zHeld) 5 (leaf1, 7)
theorem wakes14_spec (ρ : Hp) : Spec Tryz.prog 5 [] ρ [] (fun v ρ' L' => v = .bool true ∧ ρ.le ρ' ∧ L' = []) := by
 refine Zf Tryz.func5 rfl rfl rfl fun u R => ?_
 simp only [Zv, List.cons_append, List.nil_append]
 repeat' (first | (refine Zd (.func 6) ?_; refine qC rfl rfl (knew _ 300 (by omega) (by omega)) ?_; rintro v ρ' L' hle ⟨rfl, db, k0, rfl, hk0, rfl⟩ <;> (try simp only [kM, kN, kO])) | (refine Zd (.func 20) ?_; refine qC rfl rfl (kformat14 _ db 300 k0 hk0 (by omega) (by omega)) ?_; rintro v1 ρ1 L1 hle1 ⟨hl1, fb, k1, D1, rfl, hf1, hk1, g1, c1, rfl⟩; try simp only [List.cons_append, List.nil_append, List.append_assoc, List.append_eq]) | (refine Zg ?_; first | (refine Ze ?_; refine qQ ?_) | refine Zj ?_ | refine qAn ?_ | refine qXo ?_ | refine qNt ?_) | refine Za ?_ | (refine Zh ?_; refine Zq ?_) | (refine Zi ?_; refine Zr ?_) | intro _)
 repeat' (first | (refine Zd (.func 21) ?_; refine qC rfl rfl (leaf_spec _) ?_; rintro v2 ρ2 L2 hle2 ⟨hl2, w2, rfl, hC2, rfl⟩; try simp only [List.cons_append, List.nil_append, List.append_assoc, List.append_eq]) | (refine Zg ?_; first | (refine Ze ?_; refine qQ ?_) | refine Zj ?_ | refine qAn ?_ | refine qXo ?_ | refine qNt ?_) | refine Za ?_ | (refine Zh ?_; refine Zq ?_) | (refine Zi ?_; refine Zr ?_) | intro _)
 repeat' (first | (refine Zd (.func 14) ?_; refine qC rfl rfl (kwrite14 _ fb db 5 7 0 (hf1.mono hl2) (by omega) (by decide) leaf1 w2 hC2 leaf1_fit k1 D1 hk1 _ g1 c1 (by decide)) ?_; rintro v3 ρ3 L3 hle3 ⟨rfl, hl3, k3, D3, hk3, g3, c3, rfl⟩; try simp only [List.cons_append, List.nil_append, List.append_assoc, List.append_eq]) | (refine Zg ?_; first | (refine Ze ?_; refine qQ ?_) | refine Zj ?_ | refine qAn ?_ | refine qXo ?_ | refine qNt ?_) | refine Za ?_ | (refine Zh ?_; refine Zq ?_) | (refine Zi ?_; refine Zr ?_) | intro _)
 have hf3 := hf1.mono (Hp.le_trans hl2 hl3)
 repeat' (first | (refine Zd (.func 9) ?_; refine qC rfl rfl (kread14 _ fb db 5 1 hf3 (by omega) k3 D3 hk3 wkH g3 c3) ?_; rintro v4 ρ4 L4 hle4 ⟨hl4, w4, D4, rfl, hC4, hk4, g4, c4, rfl⟩; try simp only [List.cons_append, List.nil_append, List.append_assoc, List.append_eq]) | (refine Zg ?_; first | (refine Ze ?_; refine qQ ?_) | refine Zj ?_ | refine qAn ?_ | refine qXo ?_ | refine qNt ?_) | refine Za ?_ | (refine Zh ?_; refine Zq ?_) | (refine Zi ?_; refine Zr ?_) | intro _)
 have hf4 := hf3.mono hl4
 obtain ⟨wra, wrn, wrc, wka, wkn, wkc⟩ := w4
 have hC4r := hC4.r
 dsimp only at hC4r
 obtain ⟨bx, off, C, T, fr, rfl, hbx, hlx, hcx⟩ := hC4r.get (i := 0) (by decide)
 obtain rfl : wrn = 1 := hC4r.len.symm
 simp only [Yt]
 have hval : C[off + Int.toNat 0 * 4 + 2]? = some (.int .i64 1) := by
  have := congrArg (fun l : List Value => l[2]?) hcx
  simp only [List.getElem?_take_of_lt (show 2 < 4 by omega), List.getElem?_drop] at this
  exact this
 have hki : (wkH 4).fst.kind = 0 := by decide
 repeat' (first | (refine Zd (.func 9) ?_; refine qC rfl rfl (kread14 _ fb db 4 1 hf4 (by omega) k3 D4 hk4 wkH g4 c4) ?_; rintro v5 ρ5 L5 hle5 ⟨hl5, w5, D5, rfl, hC5, hk5, g5, c5, rfl⟩; have hbx5 := Hp.at' hl5 hbx; try simp only [List.cons_append, List.nil_append, List.append_assoc, List.append_eq]) | (refine Zg ?_; first | (refine Ze ?_; refine qQ ?_) | refine Zj ?_ | refine qAn ?_ | refine qXo ?_ | refine qNt ?_) | refine Za ?_ | (refine Zh ?_; refine Zq ?_) | (refine Zi ?_; refine Zr ?_) | intro _)
 have hfin := Hp.le_trans hl1 (Hp.le_trans hl2 (Hp.le_trans hl3 (Hp.le_trans hl4 hl5)))
 exact qE (L' := []) ⟨rfl, hfin, rfl⟩
structure FD (D : DS) : Prop where
 ok : D.Ok
 calm : D.Calm
 em : YX D.secs
 len : D.secs.length = 260
theorem FD.same {D D' : DS} (h : FD D) (hs : D'.secs = D.secs) (ho : D'.Ok) (hc : D'.Calm) : FD D' := ⟨ho, hc, by rw [hs]; exact h.em, by rw [hs]; exact h.len⟩
theorem pg_len {D : DS} (h : FD D) (num j : Nat) : (pg D 4 num j).length = 64 := img_len h.ok _
theorem We {D D' : DS} (h : D'.secs = D.secs) (num j : Nat) : pg D' 4 num j = pg D 4 num j := by unfold pg; rw [Xl h]
theorem FD.rd {D : DS} (h : FD D) {i : Nat} (hi : i < 260) : (D.read (i : Int)).2.1 = img D i ∧ (D.read (i : Int)).2.2 = 0 ∧ FD (D.read (i : Int)).1 ∧ (D.read (i : Int)).1.secs = D.secs := by
 have hl : i < D.secs.length := by rw [h.len]; exact hi
 have hs := read_secs (D := D) (i : Int)
 refine ⟨(rd_ok h.em h.calm.dead hl).2 (by rw [h.calm.read_eq hl]), by rw [h.calm.read_eq hl], h.same hs h.ok.read h.calm.read, hs⟩
abbrev cnt4 (D : DS) (num : Nat) : Nat × Nat × Yr := cntF num (pg D 4 num 0) (pg D 4 num 1) (pg D 4 num 2) (pg D 4 num 3)
abbrev which4 (D : DS) (num : Nat) : Int := whichF num (pg D 4 num 0) (pg D 4 num 1) (pg D 4 num 2) (pg D 4 num 3)
abbrev WR (D : DS) (num : Nat) : Nat := XX num (pg D 4 num 0) (pg D 4 num 1) (pg D 4 num 2) (pg D 4 num 3)
theorem cnt4_same {D D' : DS} (h : D'.secs = D.secs) (num : Nat) : cnt4 D' num = cnt4 D num := by unfold cnt4; simp only [We h]
theorem FD.read {D : DS} (h : FD D) {num : Nat} (hn : num < 64) : (readF D 4 num).1 = ((cnt4 D num).2.2, (cnt4 D num).2.1, 0) ∧ FD (readF D 4 num).2 ∧ (readF D 4 num).2.secs = D.secs := by
 have hln := h.len
 have hl : 4 + 4 * num + 4 ≤ D.secs.length := by omega
 obtain ⟨e1, e2⟩ := countsD_calm h.calm hl
 have e3 := countsD_val h.em h.calm.dead hl e1
 obtain ⟨e4, _, _⟩ := cntF_held num (pg D 4 num 0) (pg D 4 num 1) (pg D 4 num 2) (pg D 4 num 3)
 have hs := WJ (D := D) (base := 4) (num := num)
 have hf := h.same hs (countsD_ok h.ok) e2
 unfold Wj at e4
 unfold readF
 rw [e1, e3]
 dsimp only
 by_cases hr : (csD D 4 num).best.right = true
 ·rw [if_pos hr] at e4
  obtain ⟨q1, q2⟩ := Prod.mk.inj e4
  rw [if_neg (by simp [hr])]
  exact ⟨by dsimp only; rw [q1, q2], hf, hs⟩
 ·rw [if_neg hr] at e4
  obtain ⟨q1, q2⟩ := Prod.mk.inj e4
  rw [if_pos (.inr (by simpa using hr))]
  exact ⟨by dsimp only; rw [← q1, ← q2], hf, hs⟩
def ix4 (D : DS) (num : Nat) : Nat := 4 + 4 * num + 2 * (if which4 D num = 0 then 1 else 0)
theorem FD.write {D : DS} (h : FD D) {num lsn : Nat} {c : Yr} (hn : num < 64) :
  (WR D num = 18446744073709551615 → (XI D 4 num lsn c).2 = 6 ∧ FD (XI D 4 num lsn c).1) ∧
  (WR D num ≠ 18446744073709551615 → (XI D 4 num lsn c).2 = 0 ∧ FD (XI D 4 num lsn c).1 ∧ ∀ i, i < 260 → img (XI D 4 num lsn c).1 i =
   if i = ix4 D num then ZE num (WR D num + 1) lsn c 0 else if i = ix4 D num + 1 then ZE num (WR D num + 1) lsn c 1 else img D i) := by
 have hln := h.len
 have hL : 4 + 4 * num + 4 ≤ D.secs.length := by omega
 obtain ⟨e1, e2⟩ := countsD_calm h.calm hL
 have hv := countsD_val h.em h.calm.dead hL e1
 have hs1 := WJ (D := D) (base := 4) (num := num)
 have hok1 := countsD_ok (base := 4) (num := num) h.ok
 obtain ⟨_, c2, c3⟩ := cntF_held num (pg D 4 num 0) (pg D 4 num 1) (pg D 4 num 2) (pg D 4 num 3)
 have hmo : (csD D 4 num).most = WR D num := c3
 have hix : 4 + 4 * num + 2 * (csD D 4 num).other = ix4 D num := by unfold csD ix4; rw [c2]
 have hixl : ix4 D num + 1 < 260 := by unfold ix4; split <;> omega
 unfold XI
 rw [if_neg (by simp [e1]), hv]
 dsimp only
 rw [hmo, hix]
 refine ⟨fun h6 => ?_, fun h6 => ?_⟩
 ·rw [if_pos h6]
  exact ⟨rfl, h.same hs1 hok1 e2⟩
 ·rw [if_neg h6]
  generalize hP0 : ZE num (WR D num + 1) lsn c 0 = P0
  generalize hP1 : ZE num (WR D num + 1) lsn c 1 = P1
  have hp0 : P0.length = 64 := by rw [← hP0]; exact Ya _ _ _ _ (by omega)
  have hp1 : P1.length = 64 := by rw [← hP1]; exact Ya _ _ _ _ (by omega)
  generalize ix4 D num = ix at *
  have hW : ∀ p ∈ Ys ix P0 P1, p.1 < (ZA D 4 num).2.1.secs.length ∧ p.2.length = 64 := fun p hp => by
   rw [hs1]
   simp only [Ys, List.mem_cons, List.not_mem_nil, or_false] at hp
   rcases hp with rfl | rfl
   ·exact ⟨by dsimp only; omega, hp0⟩
   ·exact ⟨by dsimp only; omega, hp1⟩
  obtain ⟨l0, l1, l2⟩ := Calm_lays (Ys ix P0 P1) (ZA D 4 num).2.1 e2 (fun p hp => (hW p hp).1)
  have hokL := DS.Ok.lays (D := (ZA D 4 num).2.1) hok1 (fun p hp => (hW p hp).2)
  have hlenL := XT (Ys ix P0 P1) (ZA D 4 num).2.1
  rw [hs1] at l2 hlenL
  generalize DS.lays (Ys ix P0 P1) (ZA D 4 num).2.1 = r at *
  refine ⟨l0, ⟨hokL, l1, by rw [l2]; exact YH, by omega⟩, fun i hi => ?_⟩
  rcases img_all (D := r.1) h.em l2 D rfl (i := i) (by omega) with ⟨q1, q2⟩ | ⟨p, hp, q1, q2⟩
  ·have a1 := q2 (ix, P0) (by simp [Ys])
   have a2 := q2 (ix + 1, P1) (by simp [Ys])
   dsimp only at a1 a2
   rw [if_neg (by omega), if_neg (by omega), q1]
  ·simp only [Ys, List.mem_cons, List.not_mem_nil, or_false] at hp
   rcases hp with rfl | rfl
   ·dsimp only at q1 q2
    rw [if_pos q1.symm, q2]
   ·dsimp only at q1 q2
    rw [if_neg (by omega), if_pos q1.symm, q2]
theorem DS.Calm.write_ok {D : DS} (h : D.Calm) {i : Nat} {b : Blk} (hi : i < D.secs.length) (hok : D.Ok) (hb : b.length = 64) : (D.write (i : Int) b).2 = 0 ∧ (D.write (i : Int) b).1.Calm ∧ (D.write (i : Int) b).1.Ok ∧ (D.write (i : Int) b).1.secs.length = D.secs.length := by
 refine ⟨by rw [h.write_eq hi], by rw [h.write_eq hi]; exact ⟨rfl, rfl, rfl⟩, hok.write hb, by rw [h.write_eq hi]; simp [YZ]⟩
theorem FD.sync {D : DS} (h : D.Calm) (ho : D.Ok) (hl : D.secs.length = 260) : D.sync.2 = 0 ∧ FD D.sync.1 := by
 have hk := ho.sync
 rw [h.sync_eq] at hk ⊢
 exact ⟨rfl, hk, ⟨rfl, rfl, rfl⟩, YH, by show (settled _ D.secs).length = 260; rw [Yn]; exact hl⟩
theorem FD.new : (DS.new 260).Calm ∧ (DS.new 260).Ok ∧ (DS.new 260).secs.length = 260 := ⟨new_calm, new_okD (by omega) (by omega), by simp [DS.new, fresh]⟩
theorem fread14 (ρ : Hp) (b : Nat) (k : DK) (D : DS) (i : Nat) (hD : DOk k D) (h : FD D) (hi : i < 260) :
  Spec Tryz.prog 37 [.pointer (some ⟨b, 0, none⟩), .int .i64 (i : Nat)] ρ (ZF b k D) (fun v ρ' L' => v = .tuple ⟨[bv (img D i), .int .i64 0]⟩ ∧ ρ' = ρ ∧ ∃ D', FD D' ∧ DOk k D' ∧ D'.secs = D.secs ∧ L' = ZF b k D') :=
 (kread ρ b k D i hD).mono (fun v ρ' L' _ ⟨h1, h2, h3, h4⟩ => by
  obtain ⟨r1, r2, r3, r4⟩ := h.rd hi
  rw [r1, r2] at h1
  exact ⟨h1, h2, _, r3, h3, r4, h4⟩)
def secX (A B : Blk) (i : Nat) : Bs := (if 0 < i then A else z8 64) ++ (if 1 < i then B else z8 64)
theorem secX_len {A B : Blk} (hA : A.length = 64) (hB : B.length = 64) (i : Nat) : (secX A B i).length = 128 := by
 unfold secX; rw [List.length_append]
 have hz : (z8 64).length = 64 := by simp [z8]
 split <;> split <;> omega
theorem secX_set {A B : Blk} (hA : A.length = 64) (hB : B.length = 64) {i : Nat} (hi : i < 2) : stc ((secX A B i).map Zs) (0 + i * 64) ((if i = 0 then A else B).map Zs) = (secX A B (i + 1)).map Zs := by
 rcases (show i = 0 ∨ i = 1 by omega) with rfl | rfl
 ·simp only [secX, stc, Nat.lt_irrefl, if_false, if_true]
  simp [z8, hA]
 ·simp only [secX, stc]
  simp [z8, hA, hB]
theorem sectors_spec (ρ : Hp) (b : Nat) (k : DK) (D : DS) (num slot : Nat) (hD : DOk k D) (h : FD D) (hn : num < 64) (hs : slot < 2) :
  Spec Tryz.prog 16 [.pointer (some ⟨b, 0, none⟩), .int .i64 num, .int .i64 slot] ρ (ZF b k D) (fun v ρ' L' => v = .tuple ⟨[.agg ⟨(pg D 4 num (2 * slot) ++ pg D 4 num (2 * slot + 1)).map Zs⟩, .bool true]⟩ ∧ ρ' = ρ ∧ ∃ D', FD D' ∧ DOk k D' ∧ D'.secs = D.secs ∧ L' = ZF b k D') := by
 have hA := pg_len h num (2 * slot)
 have hB := pg_len h num (2 * slot + 1)
 have hpg : ∀ i, i < 2 → img D (4 + (4 * num + 2 * slot + i)) = if i = 0 then pg D 4 num (2 * slot) else pg D 4 num (2 * slot + 1) := fun i hi => by
  rcases (show i = 0 ∨ i = 1 by omega) with rfl | rfl
  ·rw [if_pos rfl]; unfold pg; congr 1; omega
  ·rw [if_neg (by omega)]; unfold pg; congr 1; omega
 generalize pg D 4 num (2 * slot) = A at *
 generalize pg D 4 num (2 * slot + 1) = B at *
 refine Zf Tryz.func16 rfl rfl rfl fun u R => ?_
 simp only [Zv, List.cons_append, List.nil_append]
 repeat' (first | (refine iBu ?_; refine Yb (Zy rfl) rfl rfl ?_) | (refine Zg ?_; first | (refine Ze ?_; refine qQ ?_) | refine Zj ?_) | refine Za ?_ | (refine Zh ?_; refine Zq ?_) | (refine Zi ?_; refine Zr ?_) | intro _)
 rename_i b6
 rw [show (List.replicate 128 (Value.int .u8 0)) = (secX A B 0).map Zs by simp [secX, z8, Zs]]
 refine ZB [(0, _), (1, _), (2, _), (6, _)] (fun (ζ : (Nat) × (DS)) => [(11, .int .i64 ζ.1), (7, .bool true)]) (fun (ζ : (Nat) × (DS)) => ρ) (fun (ζ : (Nat) × (DS)) => [[(b6, .cells ⟨(secX A B ζ.1).map Zs⟩ 52 (0, 0))]] ++ ZF b k ζ.2) (fun (ζ : (Nat) × (DS)) => ζ.1 ≤ 2 ∧ FD ζ.2 ∧ DOk k ζ.2 ∧ ζ.2.secs = D.secs) (fun (ζ : (Nat) × (DS)) => 2 - ζ.1) ((0, D)) (⟨Nat.zero_le _, h, hD, rfl⟩) Zm Zm rfl tk ?_
 rintro ⟨i, D1⟩ hI
 try simp only [List.cons_append, List.nil_append, List.append_assoc, List.append_eq] at hI ⊢
 try dsimp only at hI ⊢
 obtain ⟨hi, hf1, hd1, hs1⟩ := hI
 have hXl := secX_len hA hB i
 have hX128 : ((secX A B i).map Zs).length = 128 := by simpa using hXl
 by_cases hlt : i < 2
 ·have hset := secX_set hA hB hlt
  have hpi := hpg i hlt
  have hrd := fun ρ => fread14 ρ b k D1 (4 + (4 * num + 2 * slot + i)) hd1 hf1 (by omega)
  rw [Xl hs1, hpi] at hrd
  have hbl : (if i = 0 then A else B).length = 64 := by split <;> assumption
  generalize (if i = 0 then A else B) = blk at *
  have hb64 : (blk.map Zs).length = 64 := by simpa using hbl
  have hbo := ZI blk
  have hii : ((4 : Int) + ((4 * num + 2 * slot + i : Nat) : Int)) = ((4 + (4 * num + 2 * slot + i) : Nat) : Int) := by omega
  rw [← hii] at hrd
  repeat' (first | (refine Zd (.func 23) ?_; refine qC rfl rfl (at14_spec _ num slot i hn hs hlt) ?_; rintro v ρ' L' hle ⟨rfl, rfl, rfl⟩ <;> (try simp only [kM, kN, kO])) | (refine Zd (.func 37) ?_; refine qC rfl rfl ((hrd _)) ?_; rintro v ρ' L' hle ⟨rfl, rfl, D2, hf2, hd2, hs2, rfl⟩ <;> (try simp only [kM, kN, kO])) | (refine iBu ?_; refine Yb (Zy rfl) rfl rfl ?_) | (refine Zg ?_; first | (refine Ze ?_; refine qQ ?_) | refine Zj ?_) | refine Za ?_ | (refine Zh ?_; refine Zq ?_) | (refine Zi ?_; refine Zr ?_) | intro _)
  rw [hset]
  refine Zp (i + 1, D2) (⟨hlt, hf2, hd2, hs2.trans hs1⟩) Zm Zm rfl tk inferInstance (by first | omega | (dsimp only; omega))
 ·obtain rfl : i = 2 := by omega
  rw [show secX A B 2 = A ++ B from rfl] at hX128 ⊢
  have hone := ZI (A ++ B)
  repeat' (first | (refine iBu ?_; refine Yb (Zy rfl) rfl rfl ?_) | (refine Zg ?_; first | (refine Ze ?_; refine qQ ?_) | refine Zj ?_) | refine Za ?_ | (refine Zh ?_; refine Zq ?_) | (refine Zi ?_; refine Zr ?_) | intro _)
  exact qE (L' := ZF b k D1) ⟨rfl, rfl, D1, hf1, hd1, hs1, rfl⟩
theorem read14_spec (ρ : Hp) (fb db num : Nat) (hf : FIn ρ fb db 4) (hn : num < 64) (k : DK) (D : DS) (hD : DOk k D) (h : FD D) :
  Spec Tryz.prog 9 [.pointer (some ⟨fb, 0, none⟩), .int .i64 num] ρ (ZF db k D) (fun v ρ' L' => ρ.le ρ' ∧ ∃ w, v = .tuple ⟨[.agg ⟨Yt (cnt4 D num).2.2.kind w⟩, .int .u64 ((cnt4 D num).2.1 : Nat), .int .i64 0]⟩ ∧ CIn ρ' w (cnt4 D num).2.2.rows (cnt4 D num).2.2.kids ∧ ∃ D', FD D' ∧ DOk k D' ∧ D'.secs = D.secs ∧ L' = ZF db k D') :=
 (Read_spec ρ fb db 4 num hf (by omega) hn k D hD).mono (fun v ρ' L' _ ⟨h1, w, h2, h3, h4, h5⟩ => by
  obtain ⟨r1, r2, r3⟩ := h.read hn
  rw [r1] at h2 h3
  exact ⟨h1, w, h2, h3, _, r2, h4, r3, h5⟩)
theorem XU (ρ : Hp) (fb db num : Nat) (hf : FIn ρ fb db 4) (hn : num < 64) (k : DK) (D : DS) (hD : DOk k D) (h : FD D) :
  Spec Tryz.prog 11 [.pointer (some ⟨fb, 0, none⟩), .pointer (some ⟨db, 0, none⟩), .int .i64 num] ρ (ZF db k D) (fun v ρ' L' => v = .bool true ∧ ρ.le ρ' ∧ ∃ D', FD D' ∧ DOk k D' ∧ D'.secs = D.secs ∧ L' = ZF db k D') := by
 have hp := fun j => pg_len h num j
 have hab : ((pg D 4 num 0 ++ pg D 4 num 1).map Zs).length = 128 := by simp [hp]
 have hab1 : ((pg D 4 num 2 ++ pg D 4 num 3).map Zs).length = 128 := by simp [hp]
 have hone := ZI (pg D 4 num 0 ++ pg D 4 num 1)
 have hone1 := ZI (pg D 4 num 2 ++ pg D 4 num 3)
 have hs0 := fun ρ => sectors_spec ρ db k D num 0 hD h hn (by omega)
 have hs1 := fun ρ D1 (g1 : FD D1) (g2 : DOk k D1) (g3 : D1.secs = D.secs) => sectors_spec ρ db k D1 num 1 g2 g1 hn (by omega)
 have hs1' : ∀ ρ D1 (g1 : FD D1) (g2 : DOk k D1) (g3 : D1.secs = D.secs), Spec Tryz.prog 16 [.pointer (some ⟨db, 0, none⟩), .int .i64 num, .int .i64 1] ρ (ZF db k D1) (fun v ρ' L' => v = .tuple ⟨[.agg ⟨(pg D 4 num 2 ++ pg D 4 num 3).map Zs⟩, .bool true]⟩ ∧ ρ' = ρ ∧ ∃ D', FD D' ∧ DOk k D' ∧ D'.secs = D1.secs ∧ L' = ZF db k D') := fun ρ D1 g1 g2 g3 => by
  have := hs1 ρ D1 g1 g2 g3
  rw [We g3, We g3] at this
  exact this
 clear hs1
 have hrd := fun ρ hf D1 (g1 : FD D1) (g2 : DOk k D1) => read14_spec ρ fb db num hf hn k D1 g2 g1
 have hrd' : ∀ ρ (hf : FIn ρ fb db 4) D1 (g1 : FD D1) (g2 : DOk k D1) (g3 : D1.secs = D.secs), Spec Tryz.prog 9 [.pointer (some ⟨fb, 0, none⟩), .int .i64 num] ρ (ZF db k D1) (fun v ρ' L' => ρ.le ρ' ∧ ∃ w, v = .tuple ⟨[.agg ⟨Yt (cnt4 D num).2.2.kind w⟩, .int .u64 ((cnt4 D num).2.1 : Nat), .int .i64 0]⟩ ∧ CIn ρ' w (cnt4 D num).2.2.rows (cnt4 D num).2.2.kids ∧ ∃ D', FD D' ∧ DOk k D' ∧ D'.secs = D1.secs ∧ L' = ZF db k D') := fun ρ hf D1 g1 g2 g3 => by
  have := hrd ρ hf D1 g1 g2
  rw [cnt4_same g3] at this
  exact this
 clear hrd
 have hct := fun ρ => counts14_spec ρ num hn (pg D 4 num 0) (pg D 4 num 1) (pg D 4 num 2) (pg D 4 num 3) (hp 0) (hp 1) (hp 2) (hp 3)
 unfold cnt4 at hrd'
 generalize cntF num (pg D 4 num 0) (pg D 4 num 1) (pg D 4 num 2) (pg D 4 num 3) = C at *
 generalize whichF num (pg D 4 num 0) (pg D 4 num 1) (pg D 4 num 2) (pg D 4 num 3) = W at *
 obtain ⟨C1, C2, c⟩ := C
 dsimp only at hrd' hct
 refine Zf Tryz.func11 rfl rfl rfl fun u R => ?_
 simp only [Zv, List.cons_append, List.nil_append]
 generalize pg D 4 num 0 ++ pg D 4 num 1 = P0 at *
 generalize pg D 4 num 2 ++ pg D 4 num 3 = P1 at *
 repeat' (first | (refine Zd (.func 16) ?_; refine qC rfl rfl ((hs0 _)) ?_; rintro v ρ' L' hle ⟨rfl, rfl, D1, f1, d1, q1, rfl⟩ <;> (try simp only [kM, kN, kO])) | (refine Zd (.func 16) ?_; refine qC rfl rfl ((hs1' _ D1 f1 d1 q1)) ?_; rintro v ρ' L' hle ⟨rfl, rfl, D2, f2, d2, q2, rfl⟩ <;> (try simp only [kM, kN, kO])) | (refine Zd (.func 17) ?_; refine qC rfl rfl ((hct _)) ?_; rintro v ρ' L' hle ⟨hl3, w3, rfl, hC3, rfl⟩ <;> (try simp only [kM, kN, kO])) | (refine Zd (.func 9) ?_; refine qC rfl rfl ((hrd' _ (hf.mono hl3) D2 f2 d2 (q2.trans q1))) ?_; rintro v ρ' L' hle ⟨hl4, w4, rfl, hC4, D4, f4, d4, q4, rfl⟩ <;> (try simp only [kM, kN, kO])) | (refine Zd (.func 10) ?_; refine qC rfl rfl (sameR_spec _ w4 w3 c c hC4 (hC3.mono hl4)) ?_; rintro v ρ' L' hle ⟨rfl, rfl, rfl⟩ <;> (try simp only [kM, kN, kO])) | (refine iBu ?_; refine Yb (Zy rfl) rfl rfl ?_) | (refine Zg ?_; first | (refine Ze ?_; refine qQ ?_) | refine Zj ?_) | refine Za ?_ | (refine Zh ?_; refine Zq ?_) | (refine Zi ?_; refine Zr ?_) | intro _)
 simp only [decide_true]
 repeat' (first | (refine iBu ?_; refine Yb (Zy rfl) rfl rfl ?_) | (refine Zg ?_; first | (refine Ze ?_; refine qQ ?_) | refine Zj ?_) | refine Za ?_ | (refine Zh ?_; refine Zq ?_) | (refine Zi ?_; refine Zr ?_) | intro _)
 exact qE (L' := ZF db k D4) ⟨rfl, Hp.le_trans hl3 hl4, D4, f4, d4, q4.trans (q2.trans q1), rfl⟩
theorem wrap_ops {a : Int} (h0 : 0 ≤ a) (h1 : a < 1000000) : IntKind.i64.wrap (a + 1) = a + 1 := by
 simp [IntKind.wrap, IntKind.signed, IntKind.bits]
 omega
theorem lays_ops : ∀ (l : List (Nat × Blk)) (D : DS), D.Calm → (∀ p ∈ l, p.1 < D.secs.length) → 0 ≤ D.ops → D.ops + l.length < 900000 → (DS.lays l D).1.ops = D.ops + l.length + 1
 | [], D, h, _, h0, h1 => by
  simp only [List.length_nil] at h1
  rw [DS.lays, h.sync_eq]
  simp only [List.length_nil]
  rw [wrap_ops h0 (by omega)]; omega
 | p :: r, D, h, hl, h0, h1 => by
  simp only [List.length_cons] at h1
  have hp := hl p (by simp)
  unfold DS.lays
  rw [h.write_eq hp, if_pos rfl, wrap_ops h0 (by omega)]
  rw [lays_ops r _ ⟨rfl, rfl, rfl⟩ (fun q hq => by simp only [YZ]; exact hl q (by simp [hq])) (by dsimp only; omega) (by dsimp only; omega)]
  simp only [List.length_cons]; omega
structure EmptyD (D : DS) (n q : Nat) : Prop where
 calm : D.Calm
 em : YX D.secs
 len : D.secs.length = n
 ops0 : 0 ≤ D.ops
 ops1 : D.ops ≤ 257 * q
theorem EmptyD.new (n : Nat) : EmptyD (DS.new n) n 0 := ⟨new_calm, fresh_empty, by simp [DS.new, fresh], by simp [DS.new], by simp [DS.new]⟩
theorem EmptyD.mono {D : DS} {n q : Nat} (h : EmptyD D n q) : EmptyD D n (q + 1) := ⟨h.calm, h.em, h.len, h.ops0, by have := h.ops1; omega⟩
theorem EmptyD.format {D : DS} {n q base : Nat} (h : EmptyD D n q) (hok : D.Ok) (hq : q ≤ 4) (hb : base + 256 ≤ n) :
  (DS.lays (ZT base) D).2 = 0 ∧ EmptyD (DS.lays (ZT base) D).1 n (q + 1) ∧ (DS.lays (ZT base) D).1.ops = D.ops + 257 := by
 obtain ⟨hc, he, hl, h0, h1⟩ := h
 have hidx : ∀ p ∈ ZT base, p.1 < D.secs.length := fun p hp => by
  simp only [ZT, List.mem_map, List.mem_range] at hp
  obtain ⟨k, hk, rfl⟩ := hp
  dsimp only; omega
 obtain ⟨l0, l1, l2⟩ := Calm_lays (ZT base) D hc hidx
 have l3 := lays_ops (ZT base) D hc hidx h0 (by rw [noughtsF_len]; omega)
 rw [noughtsF_len] at l3
 refine ⟨l0, ⟨l1, by rw [l2]; exact YH, by rw [XT]; exact hl, by rw [l3]; omega, by rw [l3]; omega⟩, by rw [l3]; omega⟩
end Go.Proofs.E
