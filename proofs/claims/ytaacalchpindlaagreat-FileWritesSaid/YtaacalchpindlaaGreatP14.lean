/- The law FileWrites. Part 14 of 17. -/
import Derived.Test.YtaacalchpindlaaGreatP13
namespace Go.Proofs.E
open Go
set_option linter.unusedVariables false
set_option linter.unusedSimpArgs false
set_option linter.unusedSectionVars false
set_option maxRecDepth 4000
set_option maxHeartbeats 1000000
attribute [local irreducible] Yl TL TC TE Spec XM R1 Hp.le EnvLe TS TR YS Zo
def shortR (r : Row) : Row := ⟨r.t, r.id, r.val, r.note.take 9⟩
def XF (c : Yr) : Yr := ⟨c.kind, (c.rows.take 5).map shortR, c.kids.take 5⟩
theorem take_min9 (l : List UInt8) : l.take (min (l.length : Int) 9).toNat = l.take 9 := by
 by_cases h : l.length ≤ 9
 ·rw [show (min (l.length : Int) 9).toNat = l.length by omega, List.take_of_length_le (Nat.le_refl _), List.take_of_length_le h]
 ·rw [show (min (l.length : Int) 9).toNat = 9 by omega]
structure CInW (ρ : Hp) (v : CV) (rows : List Row) (kids : List Kid) : Prop where
 r : AIn ρ 4 Yp v.ra v.rn rows
 k : AIn ρ 3 YY v.ka v.kn kids
 rb : v.rn ≤ 9223372036854775807
 kb : v.kn ≤ 9223372036854775807
 rc : v.rn ≤ v.rc
 kc : v.kn ≤ v.kc
theorem CInW.mono {ρ ρ' v rows kids} (h : CInW ρ v rows kids) (hle : ρ.le ρ') : CInW ρ' v rows kids := ⟨h.r.mono hle, h.k.mono hle, h.rb, h.kb, h.rc, h.kc⟩
theorem flatK_one (l : List Kid) : ((l.map YY).flatten).all (·.oneCell') = true := by
 induction l with
 | nil => rfl
 | cons k r ih => simp only [List.map_cons, List.flatten_cons, List.all_append, ih, Bool.and_true]; rfl
theorem flatR_one (l : List Row) : ((l.map Yp).flatten).all (·.oneCell') = true := by
 induction l with
 | nil => rfl
 | cons k r ih => simp only [List.map_cons, List.flatten_cons, List.all_append, ih, Bool.and_true]; rfl
theorem take_five {α : Type} (l : List α) (n m : Nat) (h : l.length = n) (hm : m = min n 5) : l.take m = l.take 5 := by
 by_cases h5 : n ≤ 5
 ·rw [show m = n by omega, List.take_of_length_le (by omega), List.take_of_length_le (by omega)]
 ·rw [show m = 5 by omega]
theorem row_get {sp : List Value} : ∀ (acc : List Row) (k : Nat) (r : Row), acc[k]? = some r → ((acc.map Yp).flatten ++ sp)[0 + k * 4 + 3]? = some (strV r.note)
 | [], k, r, h => by cases h
 | a :: t, 0, r, h => by cases h; rfl
 | a :: t, k + 1, r, h => by
  have ih := row_get (sp := sp) t k r (by simpa using h)
  rw [show 0 + (k + 1) * 4 + 3 = (0 + k * 4 + 3) + 4 by omega]
  simpa only [List.map_cons, List.flatten_cons, Yp, List.cons_append, List.nil_append, List.getElem?_cons_succ] using ih
theorem row_set {sp : List Value} (s : List UInt8) : ∀ (acc : List Row) (k : Nat) (r : Row), acc[k]? = some r → ((acc.map Yp).flatten ++ sp).set (0 + k * 4 + 3) (strV s) = ((acc.set k ⟨r.t, r.id, r.val, s⟩).map Yp).flatten ++ sp
 | [], k, r, h => by cases h
 | a :: t, 0, r, h => by cases h; rfl
 | a :: t, k + 1, r, h => by
  have ih := row_set (sp := sp) s t k r (by simpa using h)
  rw [show 0 + (k + 1) * 4 + 3 = (0 + k * 4 + 3) + 4 by omega]
  simp only [List.map_cons, List.flatten_cons, Yp, List.cons_append, List.nil_append, List.set_cons_succ]
  rw [ih]
theorem row_setL {sp : List Value} (s : List UInt8) {acc : List Row} {k : Nat} {r : Row} (h : acc[k]? = some r) : SetL ((acc.map Yp).flatten ++ sp) (0 + k * 4 + 3) (strV s) (((acc.set k ⟨r.t, r.id, r.val, s⟩).map Yp).flatten ++ sp) := by
 have h1 := row_get (sp := sp) acc k r h
 have hlt : 0 + k * 4 + 3 < ((acc.map Yp).flatten ++ sp).length := by
  rcases Nat.lt_or_ge (0 + k * 4 + 3) ((acc.map Yp).flatten ++ sp).length with hh | hh
  ·exact hh
  ·rw [List.getElem?_eq_none hh] at h1; cases h1
 refine ⟨hlt, ?_⟩
 rw [← row_set s acc k r h, List.set_eq_take_append_cons_drop, if_pos hlt]
 simp [stc]
theorem set_step (RS : List Row) (k : Nat) (h : k < RS.length) : ((RS.take k).map shortR ++ RS.drop k).set k (shortR RS[k]) = (RS.take (k + 1)).map shortR ++ RS.drop (k + 1) := by
 rw [List.set_append_right _ _ (by simp; omega), List.drop_eq_getElem_cons h, List.take_succ_eq_append_getElem h]
 rw [show k - ((RS.take k).map shortR).length = 0 by simp; omega]
 simp only [List.set_cons_zero, List.map_append, List.map_cons, List.map_nil, List.append_assoc, List.cons_append, List.nil_append]
theorem get_step (RS : List Row) (k : Nat) (h : k < RS.length) : ((RS.take k).map shortR ++ RS.drop k)[k]? = some RS[k] := by
 rw [List.getElem?_append_right (by simp; omega), List.drop_eq_getElem_cons h]
 simp [show k - min k RS.length = 0 by omega]
theorem Wq (ρ : Hp) (w : CV) (c : Yr) (h : CInW ρ w c.rows c.kids) :
  Spec Tryz.prog 12 [.agg ⟨Yt c.kind w⟩] ρ [] (fun v ρ' L' => ρ.le ρ' ∧ ∃ w', v = .agg ⟨Yt c.kind w'⟩ ∧ CIn ρ' w' (XF c).rows (XF c).kids ∧ L' = []) := by
 obtain ⟨kind, rows, kids⟩ := c
 obtain ⟨ra, rn, rc, ka, kn, kc⟩ := w
 obtain ⟨hr, hk, hrb, hkb, hrc, hkc⟩ := h
 dsimp only at hr hk hrb hkb hrc hkc
 have hrl := hr.len
 have hkl := hk.len
 dsimp only [XF, Yt]
 obtain ⟨m, hm⟩ : ∃ m, m = min kn 5 := ⟨_, rfl⟩
 obtain ⟨q, hq⟩ : ∃ q, q = min rn 5 := ⟨_, rfl⟩
 have hmt : (min (kn : Int) 5).toNat = m := by omega
 have hqt : (min (rn : Int) 5).toNat = q := by omega
 have hk5 := hk.take (hi' := m) (by omega)
 have hr5 := hr.take (hi' := q) (by omega)
 rw [take_five _ _ _ hkl hm] at hk5
 rw [take_five _ _ _ hrl hq] at hr5
 have hm5 : m ≤ 5 := by omega
 have hq5 : q ≤ 5 := by omega
 generalize kids.take 5 = KS at *
 generalize rows.take 5 = RS at *
 refine Zf Tryz.func12 rfl rfl rfl fun u R => ?_
 simp only [Zv, List.cons_append, List.nil_append]
 repeat' (first | (refine Zg ?_; first | (refine Ze ?_; refine qQ ?_) | refine Zj ?_) | refine Za ?_ | (refine Zh ?_; refine Zq ?_) | (refine Zi ?_; refine Zr ?_) | intro _)
 rename_i b1 b2
 refine tc_cut_k R [] (fun (ζ : (Option Addr) × (Nat) × (List Value) × (Option Addr) × (Nat) × (List Value)) => [(1, .pointer (some ⟨b1, 0, none⟩)), (2, .pointer (some ⟨b2, 0, none⟩))]) (fun (ζ : (Option Addr) × (Nat) × (List Value) × (Option Addr) × (Nat) × (List Value)) => ρ) (fun (ζ : (Option Addr) × (Nat) × (List Value) × (Option Addr) × (Nat) × (List Value)) => [Ye (.slice ζ.1 q ζ.2.1) (RS.map Yp).flatten ζ.2.2.1 65, Ye (.slice ζ.2.2.2.1 m ζ.2.2.2.2.1) (KS.map YY).flatten ζ.2.2.2.2.2 82, [(b1, .cells ⟨[.int .i64 kind, .slice ζ.1 q ζ.2.1, .slice ζ.2.2.2.1 m ζ.2.2.2.2.1]⟩ 36 (0, 0))], [(b2, .cells ⟨[.int .i64 0, .slice none 0 0, .slice none 0 0]⟩ 36 (0, 0))]]) (fun (ζ : (Option Addr) × (Nat) × (List Value) × (Option Addr) × (Nat) × (List Value)) => OwnS (.slice ζ.1 q ζ.2.1) q (RS.map Yp).flatten ζ.2.2.1 4 ∧ OwnS (.slice ζ.2.2.2.1 m ζ.2.2.2.2.1) m (KS.map YY).flatten ζ.2.2.2.2.2 3) Zm ?_ ?_
 ·refine tc_phase 19 (Zo _ _ ([[(b1, .cells ⟨[.int .i64 kind, .slice ra rn rc, .slice ka kn kc]⟩ 36 (0, 0))]])) (by decide +kernel) (Zx (hT := tk) (Hp.le_refl _)) ?_
  simp only [List.take_succ_cons, List.take_zero]
  all_goals (refine rFa 1 ?_; refine rLd 2 ?_; refine rFa 3 ?_; refine rLd 4 ?_; refine rBi 5 ?_; refine rBi 6 ?_; refine rSl 7 ?_; refine rFa 10 ?_; refine rLd 11 ?_; refine rFa 12 ?_; refine rLd 13 ?_; refine rBi 14 ?_; refine rBi 15 ?_; refine rSl 16 ?_)
  all_goals (refine Xh (i := 0) (j := 9) ?_ ?_ <;> ((try refine Zk ?_); (first | (refine Zj ?_; try intro _)) <;> ((try simp only [kM, kN, kO]); refine Za ?_; refine Zl ?_)))
  all_goals (first | (refine Xh (i := 8) (j := 9) ?_ ?_ <;> ((try refine Zk ?_); (first | (simp only [hqt]; refine Yh (n := 0) (xs := []) (sp := []) (ys := (RS.map Yp).flatten) (m := q) (sz := 4) rfl rfl (OwnS.zero _ 4) (hR := by first | exact Yi | exact Yf Yi | exact Yf (Yf Yi)) (AIn.srcV hr5) (by rw [Wm Yp 4 _ (fun x _ => rfl), hr5.len]) (flatR_one _) (by decide) rfl (by omega) (by omega) rfl (fun v1 sp1 hown1 => ?_); simp only [Nat.zero_add, List.nil_append] at hown1 ⊢; obtain ⟨a1, c1, rfl, hlen1⟩ := hown1.len) | (simp only [hmt]; refine Yh (n := 0) (xs := []) (sp := []) (ys := (KS.map YY).flatten) (m := m) (sz := 3) rfl rfl (OwnS.zero _ 3) (hR := by first | exact Yi | exact Yf Yi | exact Yf (Yf Yi)) (AIn.srcV hk5) (by rw [Wm YY 3 _ (fun x _ => rfl), hk5.len]) (flatK_one _) (by decide) rfl (by omega) (by omega) rfl (fun v2 sp2 hown2 => ?_); simp only [Nat.zero_add, List.nil_append] at hown2 ⊢; obtain ⟨a2, c2, rfl, hlen2⟩ := hown2.len) | (refine Zj ?_; try intro _)) <;> ((try simp only [kM, kN, kO]); refine Za ?_; refine Zl ?_))) | (refine Zn (i := 0) ?_; ((try refine Zk ?_); (first | (refine Zj ?_; try intro _)) <;> ((try simp only [kM, kN, kO]); refine Za ?_; refine Zl ?_))))
  all_goals (first | refine rFa 18 ?_ | (refine Zn (i := 8) ?_; ((try refine Zk ?_); (first | (simp only [hqt]; refine Yh (n := 0) (xs := []) (sp := []) (ys := (RS.map Yp).flatten) (m := q) (sz := 4) rfl rfl (OwnS.zero _ 4) (hR := by first | exact Yi | exact Yf Yi | exact Yf (Yf Yi)) (AIn.srcV hr5) (by rw [Wm Yp 4 _ (fun x _ => rfl), hr5.len]) (flatR_one _) (by decide) rfl (by omega) (by omega) rfl (fun v1 sp1 hown1 => ?_); simp only [Nat.zero_add, List.nil_append] at hown1 ⊢; obtain ⟨a1, c1, rfl, hlen1⟩ := hown1.len) | (simp only [hmt]; refine Yh (n := 0) (xs := []) (sp := []) (ys := (KS.map YY).flatten) (m := m) (sz := 3) rfl rfl (OwnS.zero _ 3) (hR := by first | exact Yi | exact Yf Yi | exact Yf (Yf Yi)) (AIn.srcV hk5) (by rw [Wm YY 3 _ (fun x _ => rfl), hk5.len]) (flatK_one _) (by decide) rfl (by omega) (by omega) rfl (fun v2 sp2 hown2 => ?_); simp only [Nat.zero_add, List.nil_append] at hown2 ⊢; obtain ⟨a2, c2, rfl, hlen2⟩ := hown2.len) | (refine Zj ?_; try intro _)) <;> ((try simp only [kM, kN, kO]); refine Za ?_; refine Zl ?_))))
  all_goals (first | refine rFa 18 ?_ | (refine Zn (i := 9) ?_; ((try refine Zk ?_); (first | (refine Zj ?_; try intro _)) <;> ((try simp only [kM, kN, kO]); refine Za ?_; refine Zl ?_))))
  all_goals (refine Zn (i := 17) ?_; ((try refine Zk ?_); (first | (simp only [hqt]; refine Yh (n := 0) (xs := []) (sp := []) (ys := (RS.map Yp).flatten) (m := q) (sz := 4) rfl rfl (OwnS.zero _ 4) (hR := by first | exact Yi | exact Yf Yi | exact Yf (Yf Yi)) (AIn.srcV hr5) (by rw [Wm Yp 4 _ (fun x _ => rfl), hr5.len]) (flatR_one _) (by decide) rfl (by omega) (by omega) rfl (fun v1 sp1 hown1 => ?_); simp only [Nat.zero_add, List.nil_append] at hown1 ⊢; obtain ⟨a1, c1, rfl, hlen1⟩ := hown1.len) | (simp only [hmt]; refine Yh (n := 0) (xs := []) (sp := []) (ys := (KS.map YY).flatten) (m := m) (sz := 3) rfl rfl (OwnS.zero _ 3) (hR := by first | exact Yi | exact Yf Yi | exact Yf (Yf Yi)) (AIn.srcV hk5) (by rw [Wm YY 3 _ (fun x _ => rfl), hk5.len]) (flatK_one _) (by decide) rfl (by omega) (by omega) rfl (fun v2 sp2 hown2 => ?_); simp only [Nat.zero_add, List.nil_append] at hown2 ⊢; obtain ⟨a2, c2, rfl, hlen2⟩ := hown2.len) | (refine Zj ?_; try intro _)) <;> ((try simp only [kM, kN, kO]); refine Za ?_; refine Zl ?_)))
  all_goals refine ZH ?_
  all_goals refine te_phase (fuel := 3) (m := [true, true, true, true, true, true, true, true, true, true, true, true, true, true, true, true, true, true, true, false, false, false]) (Zo _ _ ([])) rfl rfl (Zx (hT := tk) (Hp.le_refl _)) ?_
  all_goals (refine Zn (i := 19) ?_; ((try refine Zk ?_); (first | (refine Zj ?_; try intro _)) <;> ((try simp only [kM, kN, kO]); refine Za ?_; refine Zl ?_)))
  all_goals refine rFa 20 ?_
  all_goals (refine Zn (i := 21) ?_; ((try refine Zk ?_); (first | (refine Zj ?_; try intro _)) <;> ((try simp only [kM, kN, kO]); refine Za ?_; refine Zl ?_)))
  all_goals refine ZH ?_
  all_goals refine te_cut_g ((a1, c1, sp1, a2, c2, sp2)) (⟨hown1, hown2⟩) Zm Zm rfl tk inferInstance
 ·rintro ⟨a1, c1, sp1, a2, c2, sp2⟩ ⟨hown1, hown2⟩
  simp only [List.cons_append, List.nil_append] at hown1 hown2 ⊢
  have hRl := hr5.len
  repeat' (first | (refine Zg ?_; first | (refine Ze ?_; refine qQ ?_) | refine Zj ?_) | refine Za ?_ | (refine Zh ?_; refine Zq ?_) | (refine Zi ?_; refine Zr ?_) | intro _)
  refine ZB [(1, _), (2, _), (26, _)] (fun (ζ : (Nat) × (List Row)) => [(27, .int .i64 ζ.1)]) (fun (ζ : (Nat) × (List Row)) => ρ) (fun (ζ : (Nat) × (List Row)) => [Ye (.slice a1 q c1) (ζ.2.map Yp).flatten sp1 65, [(b1, .cells ⟨[.int .i64 kind, .slice a1 q c1, .slice a2 m c2]⟩ 36 (0, 0))]]) (fun (ζ : (Nat) × (List Row)) => ζ.1 ≤ q ∧ ζ.2 = (RS.take ζ.1).map shortR ++ RS.drop ζ.1) (fun (ζ : (Nat) × (List Row)) => q - ζ.1) ((0, RS)) (⟨Nat.zero_le _, by simp⟩) Zm Zm rfl tk ?_
  rintro ⟨k, acc⟩ hI
  try simp only [List.cons_append, List.nil_append, List.append_assoc, List.append_eq] at hI ⊢
  try dsimp only at hI ⊢
  obtain ⟨hk0, hacc⟩ := hI
  by_cases hlt : k < q
  ·have hal : acc.length = q := by rw [hacc]; simp; omega
   obtain ⟨pb, pc, e1⟩ := hown1.pos (by omega)
   cases e1
   have hkR : k < RS.length := by rw [hRl]; exact hlt
   have hkv := get_step RS k hkR
   have hset := set_step RS k hkR
   rw [← hacc] at hkv
   rw [← hacc] at hset
   generalize RS[k]'hkR = r at *
   have hld := row_get (sp := sp1) acc k r hkv
   haveI hst := row_setL (sp := sp1) (r.note.take (min (r.note.length : Int) 9).toNat) hkv
   have e9 := take_min9 r.note
   repeat' (first | (refine Zg ?_; first | (refine Ze ?_; refine qQ ?_) | refine Zj ?_) | refine Za ?_ | (refine Zh ?_; refine Zq ?_) | (refine Zi ?_; refine Zr ?_) | intro _)
   rw [show Ye (.slice (some ⟨pb, 0, none⟩) q c1) ((acc.map Yp).flatten) sp1 65 = [(pb, .cells ⟨(acc.map Yp).flatten ++ sp1⟩ 65 (0, 0))] from rfl]
   refine tc_phase 20 (Zo _ _ ([[(pb, .cells ⟨(acc.map Yp).flatten ++ sp1⟩ 65 (0, 0))], [(b1, .cells ⟨[.int .i64 kind, .slice (some ⟨pb, 0, none⟩) q c1, .slice a2 m c2]⟩ 36 (0, 0))]])) (by decide +kernel) (Zx (hT := tk) (Hp.le_refl _)) ?_
   simp only [List.take_succ_cons, List.take_zero]
   all_goals (refine rFa 0 ?_; refine rLd 1 ?_; refine ZO 2 ?_; refine rFa 3 ?_; refine rLd 4 ?_; refine ZO 5 ?_; refine rIa 6 ?_; refine rFa 7 ?_; refine rLd 8 ?_; refine rFa 9 ?_; refine rLd 10 ?_; refine ZO 11 ?_; refine rIa 12 ?_; refine rFa 13 ?_; refine rLd 14 ?_; refine rBi 15 ?_; refine rBi 16 ?_; refine rSl 17 ?_; refine rIa 18 ?_; refine rFa 19 ?_; refine ZH ?_)
   all_goals refine te_phase (fuel := 1) (m := [true, true, true, true, true, true, true, true, true, true, true, true, true, true, true, true, true, true, true, true, false]) (Zo _ _ ([])) rfl rfl (Zx (hT := tk) (Hp.le_refl _)) ?_
   all_goals (refine Zn (i := 20) ?_; ((try refine Zk ?_); (first | (refine Zj ?_; try intro _)) <;> ((try simp only [kM, kN, kO]); refine Za ?_; refine Zl ?_)))
   all_goals refine ZH ?_
   all_goals rw [e9]
   all_goals (repeat' (first | (refine Zg ?_; first | (refine Ze ?_; refine qQ ?_) | refine Zj ?_) | refine Za ?_ | (refine Zh ?_; refine Zq ?_) | (refine Zi ?_; refine Zr ?_) | intro _))
   have hsr : (⟨r.t, r.id, r.val, r.note.take 9⟩ : Row) = shortR r := rfl
   rw [hsr]
   rw [← show Ye (.slice (some ⟨pb, 0, none⟩) q c1) (((acc.set k (shortR r)).map Yp).flatten) sp1 65 = [(pb, .cells ⟨((acc.set k (shortR r)).map Yp).flatten ++ sp1⟩ 65 (0, 0))] from rfl]
   refine Zp (k + 1, acc.set k (shortR r)) (⟨hlt, hset⟩) Zm Zm rfl tk inferInstance (by first | omega | (dsimp only; omega))
  ·have hkq : k = q := by omega
   have hfin : acc = RS.map shortR := by rw [hacc, List.take_of_length_le (by omega), List.drop_eq_nil_of_le (by omega), List.append_nil]
   have hal : acc.length = q := by rw [hfin]; simp; omega
   have hown1' : OwnS (.slice a1 q c1) q ((acc.map Yp).flatten) sp1 4 := by
    have hL : ((acc.map Yp).flatten).length = ((RS.map Yp).flatten).length := by rw [Wm Yp 4 _ (fun x _ => rfl), Wm Yp 4 _ (fun x _ => rfl), hal, hRl]
    rcases hown1.out with ⟨h1, h2, h3, h4⟩ | ⟨b, cap, h1, h2, h3, h4⟩
    ·exact ⟨.inl ⟨h1, h2, List.eq_nil_of_length_eq_zero (by rw [hL, h3]; rfl), h4⟩⟩
    ·exact ⟨.inr ⟨b, cap, h1, by rw [hL]; exact h2, by rw [hL]; exact h3, h4⟩⟩
   refine Wf (Ye (.slice a1 q c1) ((acc.map Yp).flatten) sp1 65) (fun ρ1 hle1 hfz1 => ?_)
   obtain ⟨a3, c3, e3, hc3, hA3⟩ := hown1'.aIn hal (fun x _ => rfl) hfz1
   cases e3
   refine Wf (Ye (.slice a2 m c2) ((KS.map YY).flatten) sp2 82) (fun ρ2 hle2 hfz2 => ?_)
   obtain ⟨a4, c4, e4, hc4, hA4⟩ := hown2.aIn hk5.len (fun x _ => rfl) hfz2
   cases e4
   repeat' (first | (refine Zg ?_; first | (refine Ze ?_; refine qQ ?_) | refine Zj ?_) | refine Za ?_ | (refine Zh ?_; refine Zq ?_) | (refine Zi ?_; refine Zr ?_) | intro _)
   exact qE (L' := []) ⟨Hp.le_trans hle1 hle2, ⟨a1, q, c1, a2, m, c2⟩, rfl, ⟨by rw [← hfin]; exact hA3.mono hle2, hA4, by dsimp only; omega, by dsimp only; omega, hc3, hc4⟩, rfl⟩
end Go.Proofs.E
namespace Go.Proofs.E
open Go Go.RowKit
set_option linter.unusedVariables false
set_option linter.unusedSimpArgs false
set_option linter.unusedSectionVars false
set_option maxRecDepth 8000
theorem rs_flat {α : Type} {sz : Nat} {g : α → List Value} {C : List Value} {off : Nat} : ∀ (l : List α) (k : Nat), k ≤ l.length → (∀ i (h : i < l.length), (C.drop (off + i * sz)).take sz = g l[i]) → (C.drop off).take (k * sz) = ((l.take k).map g).flatten
 | l, 0, _, _ => by simp
 | l, k + 1, hk, h => by
  have ih := rs_flat l k (by omega) h
  rw [show l.take (k + 1) = l.take k ++ [l[k]'(by omega)] from List.take_succ_eq_append_getElem (by omega), Nat.add_mul, Nat.one_mul, List.take_add, ih, List.drop_drop, h k (by omega)]
  simp only [List.map_append, List.flatten_append, List.map_cons, List.map_nil, List.flatten_cons, List.flatten_nil, List.append_nil]
theorem aIn_of {ρ : Hp} {α : Type} {sz : Nat} {g : α → List Value} {P : α → Prop} {cs : List Value} {s : Option Addr × Nat × Nat × List α} (hg : ∀ x, (g x).length = sz) (h : RS ρ sz (fun cs x => cs = g x ∧ P x) cs s) : AIn ρ sz g s.1 s.2.1 s.2.2.2 ∧ (∀ x ∈ s.2.2.2, P x) ∧ s.2.1 ≤ s.2.2.1 ∧ s.2.1 ≤ 9223372036854775807 := by
 obtain ⟨a, n, c, ks⟩ := s
 obtain ⟨h1, h2, h3, h4, h5⟩ := h
 dsimp only at h1 h2 h3 h4 h5 ⊢
 refine ⟨⟨h4, ?_, fun x _ => hg x⟩, fun x hx => ?_, h2, by omega⟩
 ·by_cases h0 : n = 0
  ·exact .inl h0
  ·right
   obtain ⟨b, off, C, T, fr, e1, e2, e3, e4⟩ := h5 0 (by omega)
   have same : ∀ i (h : i < ks.length), off + i * sz + sz ≤ C.length ∧ (C.drop (off + i * sz)).take sz = g ks[i] := fun i hi => by
    obtain ⟨b', off', C', T', fr', f1, f2, f3, f4⟩ := h5 i hi
    rw [e1] at f1
    cases f1
    rw [e2] at f2
    cases f2
    exact ⟨f3, f4.1⟩
   refine ⟨b, off, C, T, fr, e1, e2, ?_, ?_⟩
   ·have := (same (n - 1) (by omega)).1
    have e : n * sz = (n - 1) * sz + sz := by
     obtain ⟨m, rfl⟩ : ∃ m, n = m + 1 := ⟨n - 1, by omega⟩
     rw [Nat.add_mul]; simp
    omega
   ·have := rs_flat (sz := sz) (g := g) ks n (by omega) (fun i hi => (same i hi).2)
    rw [this, List.take_of_length_le (by omega)]
 ·obtain ⟨i, hi, rfl⟩ := List.mem_iff_getElem.1 hx
  obtain ⟨_, _, _, _, _, _, _, _, f⟩ := h5 i hi
  exact f.2
section
variable {H : Type} {enc : TypeId × Value → H} {w : World}
theorem opn_str : Opn enc Tryz.prog w 9 (fun cs (l : List UInt8) => cs = [strV l]) := fun fuel cs x h => by
 obtain ⟨s, rfl, _, _⟩ := DataW.trod_string Tryz.underlying9 h
 obtain ⟨⟨l⟩⟩ := s
 exact ⟨l, rfl⟩
theorem opn_key : Opn enc Tryz.prog w 63 (fun cs (k : Int × Nat) => cs = keyV k.1 k.2 ∧ k.2 < 65536) := fun fuel cs x h => by
 obtain ⟨hl, hf⟩ := Ws Tryz.underlying63 h
 have hl : cs.length = 2 := by rw [hl]; kernel_rfl
 obtain ⟨c0, c1, rfl⟩ : ∃ c0 c1, cs = [c0, c1] := by
  match cs, hl with
  | [c0, c1], _ => exact ⟨c0, c1, rfl⟩
 obtain ⟨t, h0, _⟩ := Yo h Tryz.underlying63 0 0 1 rfl rfl rfl (by kernel_rfl) (XN Tryz.underlying3)
 obtain ⟨i, h1, i0, i1⟩ := Yo h Tryz.underlying63 1 1 1 rfl rfl rfl (by kernel_rfl) (XN Tryz.underlying61)
 simp only [List.drop_zero, List.drop_succ_cons, List.take_succ_cons, List.take_zero, List.cons.injEq, and_true] at h0 h1
 subst h0; subst h1
 simp only [lo, hi] at i0 i1
 refine ⟨(t, i.toNat), ?_, by dsimp only; omega⟩
 have : ((i.toNat : Nat) : Int) = i := by omega
 simp only [keyV, this]
theorem opn_row : Opn enc Tryz.prog w 65 (fun cs (r : Row) => cs = Yp r ∧ XC r) := fun fuel cs x h => by
 obtain ⟨hl, hf⟩ := Ws Tryz.underlying65 h
 have hl : cs.length = 4 := by rw [hl]; kernel_rfl
 obtain ⟨c0, c1, c2, c3, rfl⟩ : ∃ c0 c1 c2 c3, cs = [c0, c1, c2, c3] := by
  match cs, hl with
  | [c0, c1, c2, c3], _ => exact ⟨c0, c1, c2, c3, rfl⟩
 obtain ⟨⟨t, i⟩, h0, hi0⟩ := Yo h Tryz.underlying65 0 0 2 rfl rfl rfl (by kernel_rfl) opn_key
 obtain ⟨v, h1, v0, v1⟩ := Yo h Tryz.underlying65 1 2 1 rfl rfl rfl (by kernel_rfl) (XN Tryz.underlying2)
 obtain ⟨s, h2⟩ := Yo h Tryz.underlying65 2 3 1 rfl rfl rfl (by kernel_rfl) opn_str
 simp only [List.drop_zero, List.drop_succ_cons, List.take_succ_cons, List.take_zero, List.cons.injEq, and_true, keyV] at h0 h1 h2
 obtain ⟨rfl, rfl⟩ := h0
 subst h1; subst h2
 simp only [lo, hi] at v0 v1
 exact ⟨⟨t, i, v, s⟩, rfl, ⟨hi0, v0, v1⟩⟩
theorem opn_kid : Opn enc Tryz.prog w 82 (fun cs (k : Kid) => cs = YY k ∧ k.id < 65536) := fun fuel cs x h => by
 obtain ⟨hl, hf⟩ := Ws Tryz.underlying82 h
 have hl : cs.length = 3 := by rw [hl]; kernel_rfl
 obtain ⟨c0, c1, c2, rfl⟩ : ∃ c0 c1 c2, cs = [c0, c1, c2] := by
  match cs, hl with
  | [c0, c1, c2], _ => exact ⟨c0, c1, c2, rfl⟩
 obtain ⟨⟨t, i⟩, h0, hi0⟩ := Yo h Tryz.underlying82 0 0 2 rfl rfl rfl (by kernel_rfl) opn_key
 obtain ⟨v, h1, _⟩ := Yo h Tryz.underlying82 1 2 1 rfl rfl rfl (by kernel_rfl) (XN Tryz.underlying3)
 simp only [List.drop_zero, List.drop_succ_cons, List.take_succ_cons, List.take_zero, List.cons.injEq, and_true, keyV] at h0 h1
 obtain ⟨rfl, rfl⟩ := h0
 subst h1
 exact ⟨⟨t, i, v⟩, rfl, hi0⟩
structure ContI (ρ : Hp) (x : CV × Yr) : Prop where
 c : CInW ρ x.1 x.2.rows x.2.kids
 row : ∀ r ∈ x.2.rows, XC r
 kid : ∀ k ∈ x.2.kids, k.id < 65536
theorem opn_cont : Opn enc Tryz.prog w 36 (fun cs (x : CV × Yr) => cs = Yt x.2.kind x.1 ∧ ContI (hpOf w) x) := fun fuel cs x h => by
 obtain ⟨hl, hf⟩ := Ws Tryz.underlying36 h
 have hl : cs.length = 3 := by rw [hl]; kernel_rfl
 obtain ⟨c0, c1, c2, rfl⟩ : ∃ c0 c1 c2, cs = [c0, c1, c2] := by
  match cs, hl with
  | [c0, c1, c2], _ => exact ⟨c0, c1, c2, rfl⟩
 obtain ⟨k, h0, _⟩ := Yo h Tryz.underlying36 0 0 1 rfl rfl rfl (by kernel_rfl) (XN Tryz.underlying3)
 obtain ⟨⟨ra, rn, rc, rows⟩, h1⟩ := Yo h Tryz.underlying36 1 1 1 rfl rfl rfl (by kernel_rfl) (opn_slice (sz := 4) Tryz.underlying33 (by kernel_rfl) (by decide) opn_row)
 obtain ⟨⟨ka, kn, kc, kids⟩, h2⟩ := Yo h Tryz.underlying36 2 2 1 rfl rfl rfl (by kernel_rfl) (opn_slice (sz := 3) Tryz.underlying34 (by kernel_rfl) (by decide) opn_kid)
 obtain ⟨g1, g2, g3, g4⟩ := aIn_of rowV_len h1
 obtain ⟨k1, k2, k3, k4⟩ := aIn_of kidV_len h2
 replace h1 := h1.cells
 replace h2 := h2.cells
 simp only [List.drop_zero, List.drop_succ_cons, List.take_succ_cons, List.take_zero, List.cons.injEq, and_true] at h0 h1 h2
 subst h0; subst h1; subst h2
 exact ⟨(⟨ra, rn, rc, ka, kn, kc⟩, ⟨k, rows, kids⟩), rfl, ⟨⟨g1, k1, g4, k4, g3, k3⟩, g2, k2⟩⟩
end
end Go.Proofs.E
namespace Go.Proofs.E
open Go
set_option linter.unusedVariables false
set_option linter.unusedSimpArgs false
set_option linter.unusedSectionVars false
set_option maxRecDepth 4000
set_option maxHeartbeats 1000000
attribute [local irreducible] Yl TL TC TE Spec XM R1 Hp.le EnvLe TS TR YS Zo
structure LaidV where
 page : Int
 slot : Int
 part : Int
 at' : Int
 stamp : Nat
 lsn : Nat
 w : CV
 c : Yr
 byte : UInt8
abbrev laidC (e : LaidV) : List Value := [.int .i64 e.page, .int .i64 e.slot, .int .i64 e.part, .int .i64 e.at', .int .u64 (e.stamp : Nat), .int .u64 (e.lsn : Nat), .int .i64 e.c.kind, .slice e.w.ra e.w.rn e.w.rc, .slice e.w.ka e.w.kn e.w.kc, .int .u8 (e.byte.toNat : Int)]
theorem ContI.monoQ {ρ ρ' : Hp} {x : CV × Yr} (h : ContI ρ x) (hl : ρ.le ρ') : ContI ρ' x := ⟨h.c.mono hl, h.row, h.kid⟩
structure LaidIn (ρ : Hp) (e : LaidV) : Prop where
 st : e.stamp < 18446744073709551616
 ls : e.lsn < 18446744073709551616
 c : ContI ρ (e.w, e.c)
theorem LaidIn.mono {ρ ρ' : Hp} {e : LaidV} (h : LaidIn ρ e) (hl : ρ.le ρ') : LaidIn ρ' e := ⟨h.st, h.ls, h.c.monoQ hl⟩
theorem u64_nnQ (a : Int) : 0 ≤ IntKind.u64.wrap a ∧ IntKind.u64.wrap a < 18446744073709551616 := by
 have : IntKind.u64.wrap a = a % 18446744073709551616 := by simp only [IntKind.wrap]; rfl
 omega
theorem u64_modQ (a m : Int) (h0 : 0 < m) (h1 : m ≤ 1000000) : ∃ q : Nat, (IntKind.u64.wrap a).tmod m = q ∧ (q : Int) < m ∧ IntKind.i64.wrap (q : Int) = q := by
 have h2 := (u64_nnQ a).1
 have h3 : (IntKind.u64.wrap a).tmod m = (IntKind.u64.wrap a) % m := Int.tmod_eq_emod_of_nonneg h2
 have h4 := Int.emod_nonneg (IntKind.u64.wrap a) (show m ≠ 0 by omega)
 have h5 := Int.emod_lt_of_pos (IntKind.u64.wrap a) h0
 refine ⟨((IntKind.u64.wrap a) % m).toNat, by rw [h3]; omega, by omega, Wo (by simp only [lo, hi]; omega)⟩
theorem fewC_idQ {ρ : Hp} {w : CV} {c : Yr} (h : ContI ρ (w, c)) : (∀ r ∈ (XF c).rows, r.id < 65536) ∧ ∀ k ∈ (XF c).kids, k.id < 65536 := by
 refine ⟨fun r hr => ?_, fun k hk => h.kid k (List.mem_of_mem_take hk)⟩
 simp only [XF, List.mem_map] at hr
 obtain ⟨r0, hr0, rfl⟩ := hr
 exact (h.row r0 (List.mem_of_mem_take hr0)).id
theorem xor_b (x y : UInt8) : xorI (x.toNat : Int) (y.toNat : Int) = ((x ^^^ y).toNat : Int) := by simp [xorI]
theorem blk_set {B : Bs} {q : Nat} (hq : q < B.length) (x : UInt8) : SetL (B.map Zs) (0 + q * 1) (.int .u8 (x.toNat : Int)) ((B.set q x).map Zs) := ⟨by simp; omega, by
 have h : 0 + q * 1 = q := by omega
 rw [h]
 simp only [stc, List.length_singleton, List.map_set]
 rw [List.set_eq_take_append_cons_drop, if_pos (by simpa using hq)]
 simp [Zs]⟩
theorem blk_get {B : Bs} {q : Nat} (hq : q < B.length) : (B.map Zs)[0 + q * 1]? = some (.int .u8 ((B[q]).toNat : Int)) := by
 have h : 0 + q * 1 = q := by omega
 rw [h]
 simp [Zs, hq]
theorem lays14_spec (ρ : Hp) (db n c : Nat) (a : Option Addr) (l : List LaidV) (hl : AIn ρ 10 laidC a n l) (hin : ∀ e ∈ l, LaidIn ρ e) (hbig : n ≤ 9223372036854775807) (k : DK) (D : DS) (hD : DOk k D) (hc : D.Calm) (hlen : D.secs.length = 260) :
  Spec Tryz.prog 7 [.pointer (some ⟨db, 0, none⟩), .slice a n c] ρ (ZF db k D) (fun v ρ' L' => v = .bool true ∧ ρ.le ρ' ∧ ∃ k' D', DOk k' D' ∧ FD D' ∧ L' = ZF db k' D') := by
 have hll := hl.len
 refine Zf Tryz.func7 rfl rfl rfl fun u R => ?_
 simp only [Zv, List.cons_append, List.nil_append]
 repeat' (first | (refine Zg ?_; first | (refine Ze ?_; refine qQ ?_) | refine Zj ?_ | refine qAn ?_ | refine qXo ?_ | refine qNt ?_) | refine Za ?_ | (refine Zh ?_; refine Zq ?_) | (refine Zi ?_; refine Zr ?_) | intro _)
 refine ZB [(0, _), (12, _), (13, _)] (fun (ζ : (Nat) × (Hp) × (DK) × (DS)) => [(14, .int .i64 ζ.1), (4, .bool false)]) (fun (ζ : (Nat) × (Hp) × (DK) × (DS)) => ζ.2.1) (fun (ζ : (Nat) × (Hp) × (DK) × (DS)) => ZF db ζ.2.2.1 ζ.2.2.2) (fun (ζ : (Nat) × (Hp) × (DK) × (DS)) => (ζ.1 ≤ n ∧ ζ.1 ≤ 30) ∧ ρ.le ζ.2.1 ∧ DOk ζ.2.2.1 ζ.2.2.2 ∧ ζ.2.2.2.Calm ∧ ζ.2.2.2.secs.length = 260) (fun (ζ : (Nat) × (Hp) × (DK) × (DS)) => n - ζ.1) ((0, ρ, k, D)) (⟨⟨Nat.zero_le _, Nat.zero_le _⟩, Hp.le_refl _, hD, hc, hlen⟩) Zm Zm rfl tk ?_
 rintro ⟨j, ρ2, k, D⟩ hI
 try simp only [List.cons_append, List.nil_append, List.append_assoc, List.append_eq] at hI ⊢
 try dsimp only at hI ⊢
 obtain ⟨⟨hj, hj3⟩, hl2, hk, cm, hL⟩ := hI
 have hsync := fun (u : Unit) => FD.sync cm hk.ok hL
 by_cases hlt : j < n
 ·obtain ⟨b, off, C, T, fr, rfl, hb, hb5, hcd⟩ := (hl.mono hl2).get (show j < l.length by omega)
  have he := (hin _ (List.getElem_mem (show j < l.length by omega))).mono hl2
  generalize l[j]'(by omega) = e at *
  by_cases h30 : j = 30
  ·repeat' (first | (refine Zd (.func 24) ?_; refine qC rfl rfl (ksync _ db k D hk) ?_; rintro v ρ' L' hle ⟨rfl, hl3, k3, hk3, rfl⟩ <;> (try simp only [kM, kN, kO])) | (refine Zg ?_; first | (refine Ze ?_; refine qQ ?_) | refine Zj ?_ | refine qAn ?_ | refine qXo ?_ | refine qNt ?_) | refine Za ?_ | (refine Zh ?_; refine Zq ?_) | (refine Zi ?_; refine Zr ?_) | intro _)
   obtain ⟨g1, g2⟩ := hsync ()
   rw [g1]
   repeat' (first | (refine Zg ?_; first | (refine Ze ?_; refine qQ ?_) | refine Zj ?_ | refine qAn ?_ | refine qXo ?_ | refine qNt ?_) | refine Za ?_ | (refine Zh ?_; refine Zq ?_) | (refine Zi ?_; refine Zr ?_) | intro _)
   exact qE (L' := ZF db k3 D.sync.1) ⟨rfl, Hp.le_trans hl2 hl3, k3, _, hk3, g2, rfl⟩
  ·obtain ⟨pg, hpe, hpl, hpw⟩ := u64_modQ e.page 3 (by omega) (by omega)
   obtain ⟨sl, hse, hsl, hsw⟩ := u64_modQ e.slot 2 (by omega) (by omega)
   obtain ⟨pt, hpte, hptl, hptw⟩ := u64_modQ e.part 2 (by omega) (by omega)
   obtain ⟨q, hqe, hql, hqw⟩ := u64_modQ e.at' 64 (by omega) (by omega)
   have hid := fewC_idQ he.c
   cases hok : ZN (XF e.c) with
   | false =>
    repeat' (first | (refine Zd (.func 12) ?_; refine qC rfl rfl (Wq _ e.w e.c he.c.c) ?_; rintro v ρ' L' hle ⟨hl3, w3, rfl, hC3, rfl⟩ <;> (try simp only [kM, kN, kO])) | (refine Zd (.func 13) ?_; refine qC rfl rfl (right_spec _ w3 (XF e.c) hC3 hid.1 hid.2) ?_; rintro v ρ' L' hle ⟨rfl, rfl, rfl⟩ <;> (try simp only [kM, kN, kO])) | (refine Zg ?_; first | (refine Ze ?_; refine qQ ?_) | refine Zj ?_ | refine qAn ?_ | refine qXo ?_ | refine qNt ?_) | refine Za ?_ | (refine Zh ?_; refine Zq ?_) | (refine Zi ?_; refine Zr ?_) | intro _)
    rw [hok]
    repeat' (first | (refine Zg ?_; first | (refine Ze ?_; refine qQ ?_) | refine Zj ?_ | refine qAn ?_ | refine qXo ?_ | refine qNt ?_) | refine Za ?_ | (refine Zh ?_; refine Zq ?_) | (refine Zi ?_; refine Zr ?_) | intro _)
    refine Zp (j + 1, _, k, D) (⟨⟨hlt, by omega⟩, Hp.le_trans hl2 hl3, hk, cm, hL⟩) Zm Zm rfl tk inferInstance (by first | omega | (dsimp only; omega))
   | true =>
    repeat' (first | (refine Zd (.func 12) ?_; refine qC rfl rfl (Wq _ e.w e.c he.c.c) ?_; rintro v ρ' L' hle ⟨hl3, w3, rfl, hC3, rfl⟩ <;> (try simp only [kM, kN, kO])) | (refine Zd (.func 13) ?_; refine qC rfl rfl (right_spec _ w3 (XF e.c) hC3 hid.1 hid.2) ?_; rintro v ρ' L' hle ⟨rfl, rfl, rfl⟩ <;> (try simp only [kM, kN, kO])) | (refine Zg ?_; first | (refine Ze ?_; refine qQ ?_) | refine Zj ?_ | refine qAn ?_ | refine qXo ?_ | refine qNt ?_) | refine Za ?_ | (refine Zh ?_; refine Zq ?_) | (refine Zi ?_; refine Zr ?_) | intro _)
    rw [hok]
    repeat' (first | (refine Zg ?_; first | (refine Ze ?_; refine qQ ?_) | refine Zj ?_ | refine qAn ?_ | refine qXo ?_ | refine qNt ?_) | refine Za ?_ | (refine Zh ?_; refine Zq ?_) | (refine Zi ?_; refine Zr ?_) | intro _)
    rename_i b6 b7 hlx
    refine ZD (Zo _ _ ([[(b6, .cells ⟨laidC e⟩ 71 (0, 0))]])) (Zx (hT := tk) (Hp.le_refl _)) ?_
    all_goals (refine rFa 0 ?_; refine ZR ?_; refine rLd 1 ?_; refine rCv 2 ?_; refine rRm 3 ?_; refine rCv 4 ?_; refine rFa 5 ?_; refine rLd 6 ?_; refine rCv 7 ?_; refine rRm 8 ?_; refine rCv 9 ?_; refine rFa 10 ?_; refine rLd 11 ?_; refine rCv 12 ?_; refine rRm 13 ?_; refine rCv 14 ?_; refine rAs 15 ?_; refine rAs 16 ?_; refine rAs 17 ?_; refine ZH ?_)
    all_goals rw [hpe, hse, hpte]
    have hp0 : (ZE pg e.stamp e.lsn (XF e.c) 0).length = 64 := Ya _ _ _ _ (by omega)
    have hp1 : (ZE pg e.stamp e.lsn (XF e.c) 1).length = 64 := Ya _ _ _ _ (by omega)
    have htw := two_at hp0 hp1 (show pt < 2 by omega)
    have hbl : (if pt = 0 then ZE pg e.stamp e.lsn (XF e.c) 0 else ZE pg e.stamp e.lsn (XF e.c) 1).length = 64 := by split <;> assumption
    generalize (if pt = 0 then ZE pg e.stamp e.lsn (XF e.c) 0 else ZE pg e.stamp e.lsn (XF e.c) 1) = B at *
    have hBm : (B.map Zs).length = 64 := by simpa using hbl
    have hBo := ZI B
    repeat' (first | (refine Zd (.func 19) ?_; refine qC rfl rfl (parts14_spec _ pg (by omega) e.stamp e.lsn he.st he.ls w3 (XF e.c) hC3 hok hid.1 hid.2) ?_; rintro v ρ' L' hle ⟨rfl, hl4, rfl⟩ <;> (try simp only [kM, kN, kO])) | (refine Yb (y_index_a rfl rfl (by omega) htw) rfl rfl ?_) | (refine Zg ?_; first | (refine Ze ?_; refine qQ ?_) | refine Zj ?_ | refine qAn ?_ | refine qXo ?_ | refine qNt ?_) | refine Za ?_ | (refine Zh ?_; refine Zq ?_) | (refine Zi ?_; refine Zr ?_) | intro _)
    rename_i b11
    have hq : q < B.length := by omega
    haveI hst := blk_set hq (B[q] ^^^ e.byte)
    have hgt := blk_get hq
    have hxb := xor_b B[q] e.byte
    have hb1 : (B[q]).toNat < 256 := (B[q]).toNat_lt
    have hb2 : e.byte.toNat < 256 := e.byte.toNat_lt
    refine tc_phase 10 (Zo _ _ ([[(b11, .cells ⟨B.map Zs⟩ 51 (0, 0))], [(b6, .cells ⟨laidC e⟩ 71 (0, 0))]])) (by decide +kernel) (Zx (hT := tk) (Hp.le_refl _)) ?_
    simp only [List.take_succ_cons, List.take_zero]
    refine rFa 0 ?_
    refine rLd 1 ?_
    refine rCv 2 ?_
    refine rRm 3 ?_
    rw [hqe]
    refine rIa 4 ?_
    refine rLd 5 ?_
    refine rFa 6 ?_
    refine rLd 7 ?_
    refine rXo 8 ?_
    rw [hxb]
    refine rIa 9 ?_
    refine ZH ?_
    refine te_phase (fuel := 1) (m := [true, true, true, true, true, true, true, true, true, true, false]) (Zo _ _ ([])) rfl rfl (Zx (hT := tk) (Hp.le_refl _)) ?_
    refine Zn (i := 10) ?_
    (try refine Zk ?_)
    (first | (refine Zj ?_; try intro _))
    (try simp only [kM, kN, kO])
    refine Za ?_
    refine Zl ?_
    refine ZH ?_
    have hB2 : (B.set q (B[q] ^^^ e.byte)).length = 64 := by rw [List.length_set]; exact hbl
    generalize B.set q (B[q] ^^^ e.byte) = B2 at *
    have hB2m : (B2.map Zs).length = 64 := by simpa using hB2
    have hB2o := ZI B2
    have hix : ((4 : Int) + ((4 * pg + 2 * sl + pt : Nat) : Int)) = ((4 + (4 * pg + 2 * sl + pt) : Nat) : Int) := by omega
    obtain ⟨g1, g2, g3, g4⟩ := cm.write_ok (i := 4 + (4 * pg + 2 * sl + pt)) (by omega) hk.ok hB2
    have hkw := fun ρ => kwrite ρ db k D ((4 + (4 * pg + 2 * sl + pt) : Nat) : Int) B2 hB2 hk
    rw [← hix] at hkw g1 g2 g3 g4
    rw [g1] at hkw
    have hlm := Hp.le_trans hl2 (Hp.le_trans hl3 hl4)
    repeat' (first | (refine Zg ?_; first | (refine Ze ?_; refine qQ ?_) | refine Zj ?_ | refine qAn ?_ | refine qXo ?_ | refine qNt ?_) | refine Za ?_ | (refine Zh ?_; refine Zq ?_) | (refine Zi ?_; refine Zr ?_) | intro _)
    refine ZD (Zo _ _ ([[(b11, .cells ⟨B2.map Zs⟩ 51 (0, 0))]])) (Zx (hT := tk) (Hp.le_refl _)) ?_
    all_goals (refine ZO 0 ?_; refine ZO 1 ?_; refine ZO 2 ?_; refine ZO 3 ?_; refine rLd 6 ?_)
    all_goals (refine Zn (i := 4) ?_; ((try refine Zk ?_); (first | (refine Zd (.func 23) ?_; refine qC rfl rfl (at14_spec _ pg sl pt (by omega) (by omega) (by omega)) ?_; rintro v ρ' L' hle ⟨rfl, rfl, rfl⟩ <;> (try simp only [kM, kN, kO])) | (refine Zj ?_; try intro _)) <;> ((try simp only [kM, kN, kO]); refine Za ?_; refine Zl ?_)))
    all_goals refine rAd 5 ?_
    all_goals (refine Zn (i := 7) ?_; ((try refine Zk ?_); (first | (refine Zd (.func 22) ?_; refine qC rfl rfl ((hkw _)) ?_; rintro v ρ' L' hle ⟨rfl, rfl, k3, hk3, rfl⟩ <;> (try simp only [kM, kN, kO])) | (refine Zj ?_; try intro _)) <;> ((try simp only [kM, kN, kO]); refine Za ?_; refine Zl ?_)))
    all_goals (refine ZR ?_; refine rCm 8 ?_; refine ZH ?_)
    all_goals (repeat' (first | (refine Zg ?_; first | (refine Ze ?_; refine qQ ?_) | refine Zj ?_ | refine qAn ?_ | refine qXo ?_ | refine qNt ?_) | refine Za ?_ | (refine Zh ?_; refine Zq ?_) | (refine Zi ?_; refine Zr ?_) | intro _))
    all_goals refine Zp (j + 1, _, k3, _) (⟨⟨hlt, by omega⟩, hlm, hk3, g2, g4.trans hL⟩) Zm Zm rfl tk inferInstance (by first | omega | (dsimp only; omega))
 ·repeat' (first | (refine Zd (.func 24) ?_; refine qC rfl rfl (ksync _ db k D hk) ?_; rintro v ρ' L' hle ⟨rfl, hl3, k3, hk3, rfl⟩ <;> (try simp only [kM, kN, kO])) | (refine Zg ?_; first | (refine Ze ?_; refine qQ ?_) | refine Zj ?_ | refine qAn ?_ | refine qXo ?_ | refine qNt ?_) | refine Za ?_ | (refine Zh ?_; refine Zq ?_) | (refine Zi ?_; refine Zr ?_) | intro _)
  obtain ⟨g1, g2⟩ := hsync ()
  rw [g1]
  repeat' (first | (refine Zg ?_; first | (refine Ze ?_; refine qQ ?_) | refine Zj ?_ | refine qAn ?_ | refine qXo ?_ | refine qNt ?_) | refine Za ?_ | (refine Zh ?_; refine Zq ?_) | (refine Zi ?_; refine Zr ?_) | intro _)
  exact qE (L' := ZF db k3 D.sync.1) ⟨rfl, Hp.le_trans hl2 hl3, k3, _, hk3, g2, rfl⟩
end Go.Proofs.E
namespace Go.Proofs.E
open Go Go.RowKit
set_option linter.unusedVariables false
set_option linter.unusedSimpArgs false
set_option linter.unusedSectionVars false
set_option maxRecDepth 8000
section
variable {H : Type} {enc : TypeId × Value → H} {w : World}
theorem opn_laid : Opn enc Tryz.prog w 71 (fun cs (e : LaidV) => cs = laidC e ∧ LaidIn (hpOf w) e) := fun fuel cs x h => by
 obtain ⟨hl, hf⟩ := Ws Tryz.underlying71 h
 have hl : cs.length = 10 := by rw [hl]; kernel_rfl
 obtain ⟨c0, c1, c2, c3, c4, c5, c6, c7, c8, c9, rfl⟩ : ∃ c0 c1 c2 c3 c4 c5 c6 c7 c8 c9, cs = [c0, c1, c2, c3, c4, c5, c6, c7, c8, c9] := by
  match cs, hl with
  | [c0, c1, c2, c3, c4, c5, c6, c7, c8, c9], _ => exact ⟨c0, c1, c2, c3, c4, c5, c6, c7, c8, c9, rfl⟩
 obtain ⟨p, h0, _⟩ := Yo h Tryz.underlying71 0 0 1 rfl rfl rfl (by kernel_rfl) (XN Tryz.underlying3)
 obtain ⟨a, h1, _⟩ := Yo h Tryz.underlying71 1 1 1 rfl rfl rfl (by kernel_rfl) (XN Tryz.underlying3)
 obtain ⟨f, h2, _⟩ := Yo h Tryz.underlying71 2 2 1 rfl rfl rfl (by kernel_rfl) (XN Tryz.underlying3)
 obtain ⟨g, h3, _⟩ := Yo h Tryz.underlying71 3 3 1 rfl rfl rfl (by kernel_rfl) (XN Tryz.underlying3)
 obtain ⟨n, h4, n0, n1⟩ := Yo h Tryz.underlying71 4 4 1 rfl rfl rfl (by kernel_rfl) (XN Tryz.underlying37)
 obtain ⟨m, h5, m0, m1⟩ := Yo h Tryz.underlying71 5 5 1 rfl rfl rfl (by kernel_rfl) (XN Tryz.underlying37)
 obtain ⟨⟨cw, cc⟩, h6, hcI⟩ := Yo h Tryz.underlying71 6 6 3 rfl rfl rfl (by kernel_rfl) opn_cont
 obtain ⟨y, h9, y0, y1⟩ := Yo h Tryz.underlying71 7 9 1 rfl rfl rfl (by kernel_rfl) (XN Tryz.underlying5)
 simp only [List.drop_zero, List.drop_succ_cons, List.take_succ_cons, List.take_zero, List.cons.injEq, and_true, Yt] at h0 h1 h2 h3 h4 h5 h6 h9
 obtain ⟨h6, h7, h8⟩ := h6
 subst h0; subst h1; subst h2; subst h3; subst h4; subst h5; subst h6; subst h7; subst h8; subst h9
 simp only [lo, hi] at n0 n1 m0 m1 y0 y1
 have hn : ((n.toNat : Nat) : Int) = n := by omega
 have hm : ((m.toNat : Nat) : Int) = m := by omega
 have hy : (((UInt8.ofNat y.toNat).toNat : Nat) : Int) = y := by
  rw [UInt8.toNat_ofNat_of_lt' (by show y.toNat < 256; omega)]; omega
 refine ⟨⟨p, a, f, g, n.toNat, m.toNat, cw, cc, UInt8.ofNat y.toNat⟩, ?_, ⟨by dsimp only; omega, by dsimp only; omega, hcI⟩⟩
 simp only [laidC, hn, hm, hy]
end
end Go.Proofs.E
namespace Go.Proofs.E
open Go
set_option linter.unusedVariables false
set_option linter.unusedSimpArgs false
set_option linter.unusedSectionVars false
set_option maxRecDepth 4000
set_option maxHeartbeats 1000000
attribute [local irreducible] Yl TL TC TE Spec XM R1 Hp.le EnvLe TS TR YS Zo
def iv (i : Nat) : Value := .int .i64 i
theorem appendSeq_spec (ρ0 ρ : Hp) (g : Nat) (cs : List Value) (S : SH) (xs : List Nat) (hle : ρ0.le ρ) (hxs : xs.length ≤ 1000000) (hI : Iter Tryz.prog g [] cs natE ρ0 S xs) [hF : Fun Tryz.prog g] :
  Spec Tryz.prog 61 [.slice none 0 0, .func (.func g) ⟨[]⟩ ⟨cs⟩] ρ S (fun v ρ' L' => ρ.le ρ' ∧ ∃ sp, OwnS v xs.length (xs.map iv) sp 1 ∧ L' = S ++ [Ye v (xs.map iv) sp 3]) := by
 refine Zf Tryz.func61 rfl rfl rfl fun u R => ?_
 simp only [Zv, List.cons_append, List.nil_append]
 repeat' (first | (refine Zg ?_; first | (refine Ze ?_; refine qQ ?_) | refine Zj ?_) | refine Za ?_ | (refine Zh ?_; refine Zq ?_) | (refine Zi ?_; refine Zr ?_) | intro _)
 rename_i sb
 refine tc_rangeFunc (S := S) (L0 := [[(sb, .cells ⟨[.slice none 0 0]⟩ 23 (0, 0))], Ye (.slice none 0 0) [] [] 3]) (R := R) (R0 := [(sb, .cells ⟨[.slice none 0 0]⟩ 23 (0, 0))] :: R) rfl rfl hI hle (fun _ => rfl) rfl
  (fun pre ρ' Lu => ρ.le ρ' ∧ ∃ v sp, OwnS v pre.length (pre.map iv) sp 1 ∧ Lu = [[(sb, .cells ⟨[v]⟩ 23 (0, 0))], Ye v (pre.map iv) sp 3]) (fun _ _ _ => False) ?k1 ?k2 ⟨Hp.le_refl _, _, [], OwnS.nil 1, rfl⟩ ?round ?done ?stop
 case k1 => exact take_skip' take_app'
 case k2 => exact take_cons' Yi (take_cons' rem_nil' take_nil')
 case stop => rintro D0 c ρ' Lu _ hf; exact hf.elim
 case round =>
  rintro l tm r pre y ρ' Lu u R' hpre hle' ⟨hle2, v, sp, hown, rfl⟩ hr hrec
  simp only [envP, natE, List.cons_append, List.nil_append]
  repeat' (first | (refine Zg ?_; first | (refine Ze ?_; refine qQ ?_) | refine Zj ?_) | refine Za ?_ | (refine Zh ?_; refine Zq ?_) | (refine Zi ?_; refine Zr ?_) | intro _)
  refine te_begin rfl hr (fun r' hb hrec' => ?_)
  have hlen := hpre.length_le
  simp only [List.length_append, List.length_singleton] at hlen
  repeat' (first | (refine ZC rfl rfl rfl rfl (by simp) rfl rfl (fun _ => ?_)) | (refine tl_append (ys := [_]) rfl rfl hown (Src.find (n := 1) rfl) rfl rfl (by decide) rfl (by omega) (by omega) rfl (fun v' sp' hown' => ?_); obtain ⟨a', cap', rfl, hvl⟩ := hown'.len) | (refine Zg ?_; first | (refine Ze ?_; refine qQ ?_) | refine Zj ?_) | refine Za ?_ | (refine Zh ?_; refine Zq ?_) | (refine Zi ?_; refine Zr ?_) | intro _)
  refine Xj [(l, .loop r')] ?_
  refine te_next (Lu := [[(sb, .cells ⟨[.slice a' (pre.length + 1) cap']⟩ 23 (0, 0))], Ye (.slice a' (pre.length + 1) cap') (pre.map iv ++ [.int .i64 (y : Int)]) sp' 3]) rfl (Hp.le_refl _) ⟨hrec'.tmps.trans hrec.tmps, hrec'.params.trans hrec.params, hrec'.assign.trans hrec.assign, hrec'.body.trans hrec.body⟩ tk tk inferInstance ?_
  refine ⟨hle2, .slice a' (pre.length + 1) cap', sp', ?_, ?_⟩
  ·simpa [iv] using hown'
  ·simp [iv]
 case done =>
  rintro D0 ρ' Lu hle' ⟨hle2, v, sp, hown, rfl⟩
  simp only [List.cons_append, List.nil_append]
  obtain ⟨a', cap', rfl, hvl⟩ := hown.len
  repeat' (first | (refine Zg ?_; first | (refine Ze ?_; refine qQ ?_) | refine Zj ?_) | refine Za ?_ | (refine Zh ?_; refine Zq ?_) | (refine Zi ?_; refine Zr ?_) | intro _)
  exact te_end_d rfl rfl rfl inferInstance (res1 rfl (ZY rfl)) hle2 (take_append' (take_skip' take_app') tk) (by infer_instance) ⟨hle2, sp, hown, rfl⟩
theorem collect_spec (ρ0 ρ : Hp) (g : Nat) (cs : List Value) (S : SH) (xs : List Nat) (hle : ρ0.le ρ) (hxs : xs.length ≤ 1000000) (hI : Iter Tryz.prog g [] cs natE ρ0 S xs) [hF : Fun Tryz.prog g] :
  Spec Tryz.prog 35 [.func (.func g) ⟨[]⟩ ⟨cs⟩] ρ S (fun v ρ' L' => ρ.le ρ' ∧ ∃ sp, OwnS v xs.length (xs.map iv) sp 1 ∧ L' = S ++ [Ye v (xs.map iv) sp 3]) := by
 refine Zf Tryz.func35 rfl rfl rfl fun u R => ?_
 simp only [Zv, List.cons_append, List.nil_append]
 repeat' (first | (refine Zd (.func 61) ?_; refine tl_call rfl rfl (appendSeq_spec ρ0 ρ g cs S xs hle hxs hI) take_app' rfl ?_; rintro v ρ' L' hle' ⟨hle2, sp, hown, rfl⟩) | (refine Zg ?_; first | (refine Ze ?_; refine qQ ?_) | refine Zj ?_) | refine Za ?_ | (refine Zh ?_; refine Zq ?_) | (refine Zi ?_; refine Zr ?_) | intro _)
 exact te_end rfl rfl rfl (res1 rfl (ZY rfl)) hle2 (by rw [List.append_assoc]; exact take_append' take_app' tk) (by infer_instance) ⟨hle2, sp, hown, rfl⟩
theorem pendingM_spec (ρ : Hp) (b : Nat) (hb : HB) (mb : Nat) (es : List MapEntry) (ck : Nat) (D : DS) (hD : D.Ok) (hm : MapOk D.secs es) :
  Spec Tryz.prog 15 [.pointer (some ⟨b, 0, none⟩)] ρ (Xy b hb mb es ck D) (fun v ρ' L' => ρ.le ρ' ∧ ∃ sp, OwnS v (pend D.secs).length ((pend D.secs).map iv) sp 1 ∧ L' = Xy b hb mb es ck D ++ [Ye v ((pend D.secs).map iv) sp 3]) := by
 obtain ⟨s, ops, armed, failing, dead⟩ := D
 obtain ⟨hs, a1, a2, f1, f2⟩ := hD
 dsimp only at hs a1 a2 f1 f2 hm ⊢
 have hpl := pend_length hs
 refine Zf Tryz.func15 rfl rfl rfl fun u R => ?_
 simp only [Zv, List.cons_append, List.nil_append, Xy]
 repeat' (first | (refine Zd (.func 36) ?_; refine qC rfl rfl (pending_spec _ _) ?_; rintro v ρ' L' hle ⟨bx, rfl, rfl, rfl⟩ <;> (try simp only [kM, kN, kO])) | (refine Zg ?_; first | (refine Ze ?_; refine qQ ?_) | refine Zj ?_) | refine Za ?_ | (refine Zh ?_; refine Zq ?_) | (refine Zi ?_; refine Zr ?_) | intro _)
 refine tl_call rfl rfl (collect_spec ρ' ρ' 62 _ [[(bx, .cells ⟨[.pointer (some ⟨b, 0, none⟩)]⟩ 25 (0, 0))], [(b, dO hb mb s.length ops armed failing dead)], [(mb, .map ⟨es⟩ ck)]] (pend s) (Hp.le_refl _) (by omega) (pending1_iter ρ' b hb mb bx s ops armed failing dead es ck hm hs)) tk rfl ?_
 rintro v ρ2 L' hle' ⟨hle2, sp, hown, rfl⟩
 simp only [List.cons_append, List.nil_append]
 repeat' (first | (refine Zg ?_; first | (refine Ze ?_; refine qQ ?_) | refine Zj ?_) | refine Za ?_ | (refine Zh ?_; refine Zq ?_) | (refine Zi ?_; refine Zr ?_) | intro _)
 exact te_end rfl rfl rfl (res1 rfl (ZY rfl)) hle2 tk (by infer_instance) ⟨hle2, sp, hown, rfl⟩
theorem pending0_spec (ρ : Hp) (b : Nat) (k : DK) (D : DS) (hD : DOk k D) (hf : FD D) : Spec Tryz.prog 15 [.pointer (some ⟨b, 0, none⟩)] ρ (ZF b k D) (fun v ρ' L' => ρ.le ρ' ∧ ∃ a c, v = .slice a 0 c ∧ L' = ZF b k D) := by
 refine (pendingM_spec ρ b k.hb k.mb k.es k.ck D hD.ok hD.map).forget ?_
 rintro v ρ' L' ⟨h1, sp, h2, rfl⟩
 obtain ⟨a, c, rfl, _⟩ := h2.len
 rw [pend_empty hf.em]
 exact ⟨_, _, rfl, fun ρ2 h => ⟨Hp.le_trans h1 h, a, c, rfl, rfl⟩⟩
end Go.Proofs.E
