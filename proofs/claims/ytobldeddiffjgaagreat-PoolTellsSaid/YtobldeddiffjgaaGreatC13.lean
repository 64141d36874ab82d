/- The law PoolTells. Part 13 of 20. -/
import Derived.Test.YtobldeddiffjgaaGreatC12
namespace Go.Proofs.E
open Go
set_option linter.unusedVariables false
set_option linter.unusedSimpArgs false
set_option linter.unusedSectionVars false
set_option maxRecDepth 4000
set_option maxHeartbeats 1000000
attribute [local irreducible] Yl TL TC TE Spec XU R1 Hp.le EnvLe TS TR YS Zr
theorem filt_pre16 {α : Type} (q : α → Bool) (l : List α) {k : Nat} (hk : k < l.length) (hq : q l[k] = true) : ((l.take k).filter q ++ [l[k]]) <+: l.filter q ∧ (l.take (k + 1)).filter q = (l.take k).filter q ++ [l[k]] := by
 have e : (l.take (k + 1)).filter q = (l.take k).filter q ++ [l[k]] := by
  rw [List.take_succ_eq_append_getElem hk, List.filter_append]
  congr 1
  simp [hq]
 refine ⟨?_, e⟩
 rw [← e]
 exact ⟨(l.drop (k + 1)).filter q, by rw [← List.filter_append, List.take_append_drop]⟩
theorem filt_no16 {α : Type} (q : α → Bool) (l : List α) {k : Nat} (hk : k < l.length) (hq : q l[k] = false) : (l.take (k + 1)).filter q = (l.take k).filter q := by
 rw [List.take_succ_eq_append_getElem hk, List.filter_append]
 simp [hq]
theorem flatL_at {l : List RR} {sp : List Value} {k : Nat} (h : k < l.length) : ((flatL l ++ sp).drop (0 + k * 10)).take 10 = rrV l[k] := by
 have h1 := flatL_len l
 rw [Nat.zero_add, List.drop_append_of_le_length (by omega), List.take_append_of_le_length (by rw [List.length_drop]; omega)]
 exact flat_at rrV 10 l k h (fun x _ => rfl)
abbrev fromL (S : LgS) (lsn : Nat) : List RR := S.recs.filter (fun x => decide (lsn ≤ x.2.lsn))
abbrev fb1 (b lb : Nat) : List (Nat × Obj) := [(b, .cells ⟨[.pointer (some ⟨lb, 0, none⟩)]⟩ 24 (0, 0))]
abbrev fb2 (b lsn : Nat) : List (Nat × Obj) := [(b, .cells ⟨[.int .u64 (lsn : Nat)]⟩ 22 (0, 0))]
theorem from16_spec (ρ : Hp) (lb lsn : Nat) : Spec Tryz.prog 54 [.pointer (some ⟨lb, 0, none⟩), .int .u64 (lsn : Nat)] ρ [] (fun v ρ' L' => ∃ b1 b2, v = .func (.func 108) ⟨[]⟩ ⟨[.pointer (some ⟨b1, 0, none⟩), .pointer (some ⟨b2, 0, none⟩)]⟩ ∧ ρ' = ρ ∧ L' = [fb1 b1 lb, fb2 b2 lsn]) := by
 refine Ze Tryz.func54 rfl rfl rfl fun u R => ?_
 simp only [Zt, List.cons_append, List.nil_append]
 repeat' (first | (refine Zg ?_; first | (refine Zf ?_; refine qQ ?_) | refine Zj ?_) | refine Za ?_ | (refine Zh ?_; refine Zu ?_) | (refine Zi ?_; refine Zv ?_) | intro _)
 rename_i b1 b2
 exact qE (L' := [fb1 b1 lb, fb2 b2 lsn]) ⟨b1, b2, rfl, rfl, rfl⟩
theorem from16_iter (ρ0 : Hp) (lb rb b1 b2 lsn : Nat) (S : LgS) (v : Value) (sp : List Value) (h : LgIn ρ0 S v sp) :
  IterP Tryz.prog 108 [] [.pointer (some ⟨b1, 0, none⟩), .pointer (some ⟨b2, 0, none⟩)] (fun x : RR => [.agg ⟨rrV x⟩]) ρ0 [fb1 b1 lb, fb2 b2 lsn, Xf S v sp] (YB lb rb S v) (fromL S lsn) := by
 intro l J Jx hC hY ρ Lj hl0 hJ
 have h1 := h.len
 obtain ⟨A, B, rfl⟩ := hC _ _ hJ
 rcases h.own.out with ⟨rfl, g0, g1, g2⟩ | ⟨bx, cap, rfl, g1, g2, g3⟩
 ·have hnil : S.recs = [] := List.eq_nil_of_length_eq_zero g0
  subst g2
  simp only [Xf, Ym, fromL, hnil, List.filter_nil]
  refine Ze Tryz.func108 rfl rfl rfl fun u R => ?_
  simp only [Zt, List.cons_append, List.nil_append, List.append_assoc]
  repeat' (first | (refine Zg ?_; first | (refine Zf ?_; refine qQ ?_) | refine Zj ?_) | refine Za ?_ | (refine Zh ?_; refine Zu ?_) | (refine Zi ?_; refine Zv ?_) | intro _)
  refine ZH [(0, _), (2, _), (9, _), (10, _)] (fun (ζ : (Nat)) => [(11, .int .i64 ζ)]) (fun (ζ : (Nat)) => ρ) (fun (ζ : (Nat)) => fb1 b1 lb :: fb2 b2 lsn :: (A ++ YB lb rb S (.slice none 0 0) :: B)) (fun (ζ : (Nat)) => ζ = 0) (fun (ζ : (Nat)) => 0) (0) (rfl) Zo Zo rfl tk ?_
  rintro k hI
  try simp only [List.cons_append, List.nil_append, List.append_assoc, List.append_eq] at hI ⊢
  try dsimp only at hI ⊢
  subst hI
  repeat' (first | (refine Zg ?_; first | (refine Zf ?_; refine qQ ?_) | refine Zj ?_) | refine Za ?_ | (refine Zh ?_; refine Zu ?_) | (refine Zi ?_; refine Zv ?_) | intro _)
  exact qE (L' := fb1 b1 lb :: fb2 b2 lsn :: [] :: (A ++ YB lb rb S (.slice none 0 0) :: B)) ⟨_, rfl, .inl hJ⟩
 ·simp only [Xf, Ym]
  have hfl := flatL_len S.recs
  have hlen : (flatL S.recs ++ sp).length = cap * 10 := by rw [List.length_append]; exact g2
  refine Ze Tryz.func108 rfl rfl rfl fun u R => ?_
  simp only [Zt, List.cons_append, List.nil_append, List.append_assoc]
  repeat' (first | (refine Zg ?_; first | (refine Zf ?_; refine qQ ?_) | refine Zj ?_) | refine Za ?_ | (refine Zh ?_; refine Zu ?_) | (refine Zi ?_; refine Zv ?_) | intro _)
  refine ZH [(0, _), (2, _), (9, _), (10, _)] (fun (ζ : (Nat) × (Hp) × (SH)) => [(11, .int .i64 ζ.1)]) (fun (ζ : (Nat) × (Hp) × (SH)) => ζ.2.1) (fun (ζ : (Nat) × (Hp) × (SH)) => fb1 b1 lb :: fb2 b2 lsn :: [(bx, .cells ⟨flatL S.recs ++ sp⟩ 34 (0, 0))] :: ζ.2.2) (fun (ζ : (Nat) × (Hp) × (SH)) => ζ.1 ≤ S.recs.length ∧ ρ.le ζ.2.1 ∧ J ((S.recs.take ζ.1).filter (fun x => decide (lsn ≤ x.2.lsn))) ζ.2.1 ζ.2.2) (fun (ζ : (Nat) × (Hp) × (SH)) => S.recs.length - ζ.1) ((0, ρ, A ++ YB lb rb S (.slice (some ⟨bx, 0, none⟩) S.recs.length cap) :: B)) (⟨Nat.zero_le _, Hp.le_refl _, hJ⟩) Zo Zo rfl tk ?_
  rintro ⟨k, ρ1, L1⟩ hI
  try simp only [List.cons_append, List.nil_append, List.append_assoc, List.append_eq] at hI ⊢
  try dsimp only at hI ⊢
  obtain ⟨hk, hle1, hj⟩ := hI
  by_cases hlt : k < S.recs.length
  ·have hl1 := Hp.le_trans hl0 hle1
   have hc := flatL_at (sp := sp) hlt
   have hyes := filt_pre16 (fun x : RR => decide (lsn ≤ x.2.lsn)) S.recs hlt
   have hno := filt_no16 (fun x : RR => decide (lsn ≤ x.2.lsn)) S.recs hlt
   generalize S.recs[k] = x at *
   obtain ⟨xv, xr⟩ := x
   dsimp only [rrV] at hc hyes hno
   by_cases hq : lsn ≤ xr.lsn
   ·obtain ⟨hpre, hts⟩ := hyes (decide_eq_true hq)
    clear hyes hno
    have hy := hY _ _ ρ1 L1 hpre hl1 hj
    repeat' (first | (refine Zc (.tmp 20) ?_; refine qY rfl rfl (hy) ?_; rintro v ρ' L' hle ⟨Lj', rfl, ⟨rfl, hj'⟩ | ⟨rfl, hj'⟩⟩ <;> (try simp only [kM, kN, kO])) | (refine Zg ?_; first | (refine Zf ?_; refine qQ ?_) | refine Zj ?_) | refine Za ?_ | (refine Zh ?_; refine Zu ?_) | (refine Zi ?_; refine Zv ?_) | intro _)
    ·repeat' (first | (refine Zg ?_; first | (refine Zf ?_; refine qQ ?_) | refine Zj ?_) | refine Za ?_ | (refine Zh ?_; refine Zu ?_) | (refine Zi ?_; refine Zv ?_) | intro _)
     refine Zx (k + 1, ρ', Lj') (⟨hlt, Hp.le_trans hle1 hle, by dsimp only; rw [hts]; exact hj'⟩) Zo Zo rfl tk inferInstance (by first | omega | (dsimp only; omega))
    ·repeat' (first | (refine Zg ?_; first | (refine Zf ?_; refine qQ ?_) | refine Zj ?_) | refine Za ?_ | (refine Zh ?_; refine Zu ?_) | (refine Zi ?_; refine Zv ?_) | intro _)
     exact qE (L' := fb1 b1 lb :: fb2 b2 lsn :: [(bx, .cells ⟨flatL S.recs ++ sp⟩ 34 (0, 0))] :: Lj') ⟨Lj', rfl, .inr hj'⟩
   ·have hts := hno (decide_eq_false hq)
    clear hyes hno
    repeat' (first | (refine Zg ?_; first | (refine Zf ?_; refine qQ ?_) | refine Zj ?_) | refine Za ?_ | (refine Zh ?_; refine Zu ?_) | (refine Zi ?_; refine Zv ?_) | intro _)
    refine Zx (k + 1, ρ1, L1) (⟨hlt, hle1, by dsimp only; rw [hts]; exact hj⟩) Zo Zo rfl tk inferInstance (by first | omega | (dsimp only; omega))
  ·have hk2 : k = S.recs.length := by omega
   rw [hk2, List.take_length] at hj
   repeat' (first | (refine Zg ?_; first | (refine Zf ?_; refine qQ ?_) | refine Zj ?_) | refine Za ?_ | (refine Zh ?_; refine Zu ?_) | (refine Zi ?_; refine Zv ?_) | intro _)
   exact qE (L' := fb1 b1 lb :: fb2 b2 lsn :: [(bx, .cells ⟨flatL S.recs ++ sp⟩ 34 (0, 0))] :: L1) ⟨L1, rfl, .inl hj⟩
def Vr (to : Nat) : List RR → RgS → DS → Nat → RgS × DS × Nat × Int
 | [], R, D, f => (R, D, f, 0)
 | x :: l, R, D, f => if to < x.2.lsn then (R, D, f, 0)
  else if (R.append (WN x.2) D).2.2 = 0 then Vr to l (R.append (WN x.2) D).1 (R.append (WN x.2) D).2.1 x.2.lsn
  else ((R.append (WN x.2) D).1, (R.append (WN x.2) D).2.1, f, (R.append (WN x.2) D).2.2)
def LgS.at (S : LgS) (R : RgS) (f : Nat) : LgS := { S with R := R, fl := f }
def LgS.flush (S : LgS) (to : Nat) (D : DS) : LgS × DS × Int :=
 if S.next ≤ to then (S, D, 2) else
 (S.at (Vr to (fromL S (S.fl + 1)) S.R D S.fl).1 (Vr to (fromL S (S.fl + 1)) S.R D S.fl).2.2.1, (Vr to (fromL S (S.fl + 1)) S.R D S.fl).2.1, (Vr to (fromL S (S.fl + 1)) S.R D S.fl).2.2.2)
theorem fromL_mem {S : LgS} {lsn : Nat} {x : RR} (h : x ∈ fromL S lsn) : x ∈ S.recs := (List.mem_filter.1 h).1
abbrev b2C (b lb : Nat) : List (Nat × Obj) := [(b, .cells ⟨[.pointer (some ⟨lb, 0, none⟩)]⟩ 24 (0, 0))]
abbrev b3C (b to : Nat) : List (Nat × Obj) := [(b, .cells ⟨[.int .u64 (to : Nat)]⟩ 22 (0, 0))]
abbrev b4C (b : Nat) (e : Int) : List (Nat × Obj) := [(b, .cells ⟨[.int .i64 e]⟩ 25 (0, 0))]
theorem flush16_spec (ρ : Hp) (lb rb db : Nat) (S : LgS) (v : Value) (sp : List Value) (h : LgIn ρ S v sp) (w : RW) (hR : RIn ρ S.R w) (k : DK) (D : DS) (hD : DOk k D) (to : Nat) (hf : S.fl < 1000000000000000) :
  Spec Tryz.prog 12 [.pointer (some ⟨lb, 0, none⟩), .int .u64 (to : Nat)] ρ (YB lb rb S v :: Xf S v sp :: (Xe rb db S.R w ++ ZA db k D))
   (fun z ρ' L' => z = .int .i64 (S.flush to D).2.2 ∧ ρ.le ρ' ∧ ∃ w' k', RIn ρ' (S.flush to D).1.R w' ∧ DOk k' (S.flush to D).2.1 ∧ L' = YB lb rb (S.flush to D).1 v :: Xf S v sp :: (Xe rb db (S.flush to D).1.R w' ++ ZA db k' (S.flush to D).2.1)) := by
 have hn := fun ρ => next16_spec ρ lb rb S v sp
 by_cases hto : S.next ≤ to
 ·have e : S.flush to D = (S, D, 2) := by unfold LgS.flush; rw [if_pos hto]
  rw [e]
  refine Ze Tryz.func12 rfl rfl rfl fun u R => ?_
  simp only [Zt, List.cons_append, List.nil_append]
  repeat' (first | (refine Zg ?_; first | (refine Zf ?_; refine qQ ?_) | refine Zj ?_) | refine Za ?_ | (refine Zh ?_; refine Zu ?_) | (refine Zi ?_; refine Zv ?_) | intro _)
  rename_i c2 c3 c4
  refine Zz (Zr _ _ ([b2C c2 lb, b3C c3 to])) (Zy (hT := tk) (Hp.le_refl _)) ?_
  all_goals (refine ZX 0 ?_; refine ZX 1 ?_)
  all_goals (refine Zm (i := 2) ?_; ((try refine Zk ?_); (first | (refine Zc (.func 16) ?_; refine qC rfl rfl (hn _ h) ?_; rintro v ρ' L' hle ⟨rfl, rfl, rfl⟩ <;> (try simp only [kM, kN, kO])) | (refine Zj ?_; try intro _)) <;> ((try simp only [kM, kN, kO]); refine Za ?_; refine Zl ?_)))
  all_goals (refine ZN ?_; refine rCm 3 ?_; refine ZI ?_)
  all_goals (repeat' (first | (refine Zg ?_; first | (refine Zf ?_; refine qQ ?_) | refine Zj ?_) | refine Za ?_ | (refine Zh ?_; refine Zu ?_) | (refine Zi ?_; refine Zv ?_) | intro _))
  all_goals exact qE (L' := YB lb rb S v :: Xf S v sp :: (Xe rb db S.R w ++ ZA db k D)) ⟨rfl, Hp.le_refl _, w, k, hR, hD, rfl⟩
 ·generalize hq : Vr to (fromL S (S.fl + 1)) S.R D S.fl = q
  have e : S.flush to D = (S.at q.1 q.2.2.1, q.2.1, q.2.2.2) := by unfold LgS.flush; rw [if_neg hto, hq]
  rw [e]
  dsimp only
  obtain ⟨Rq, Dq, fq, eq⟩ := q
  refine Ze Tryz.func12 rfl rfl rfl fun u R => ?_
  simp only [Zt, List.cons_append, List.nil_append]
  have e1 : ((S.fl : Nat) : Int) + 1 = ((S.fl + 1 : Nat) : Int) := by omega
  repeat' (first | (refine Zg ?_; first | (refine Zf ?_; refine qQ ?_) | refine Zj ?_) | refine Za ?_ | (refine Zh ?_; refine Zu ?_) | (refine Zi ?_; refine Zv ?_) | intro _)
  rename_i c2 c3 c4
  refine Zz (Zr _ _ ([b2C c2 lb, b3C c3 to])) (Zy (hT := tk) (Hp.le_refl _)) ?_
  all_goals (refine ZX 0 ?_; refine ZX 1 ?_)
  all_goals (refine Zm (i := 2) ?_; ((try refine Zk ?_); (first | (refine Zc (.func 16) ?_; refine qC rfl rfl (hn _ h) ?_; rintro v ρ' L' hle ⟨rfl, rfl, rfl⟩ <;> (try simp only [kM, kN, kO])) | (refine Zj ?_; try intro _)) <;> ((try simp only [kM, kN, kO]); refine Za ?_; refine Zl ?_)))
  all_goals (refine ZN ?_; refine rCm 3 ?_; refine ZI ?_)
  all_goals (repeat' (first | (refine Zg ?_; first | (refine Zf ?_; refine qQ ?_) | refine Zj ?_) | refine Za ?_ | (refine Zh ?_; refine Zu ?_) | (refine Zi ?_; refine Zv ?_) | intro _))
  all_goals
   refine Zz (Zr _ _ _) Ye ?_
   all_goals (refine ZX 0 ?_; refine ZX 1 ?_; refine rNc 2 ?_; refine Yv 3 ?_; refine ZX 4 ?_; refine rAd 5 ?_)
   all_goals (refine Zm (i := 6) ?_; ((try refine Zk ?_); (first | (simp only [e1]; refine Zc (.func 54) ?_; refine qC rfl rfl (from16_spec _ lb (S.fl + 1)) ?_; rintro v1 ρ1 L1 hle1 ⟨d1, d2, rfl, rfl, rfl⟩; simp only [List.cons_append, List.nil_append]) | (refine Zj ?_; try intro _)) <;> ((try simp only [kM, kN, kO]); refine Za ?_; refine Zl ?_)))
   all_goals refine ZI ?_
  all_goals (repeat' (first | (refine Zg ?_; first | (refine Zf ?_; refine qQ ?_) | refine Zj ?_) | refine Za ?_ | (refine Zh ?_; refine Zu ?_) | (refine Zi ?_; refine Zv ?_) | intro _))
  refine tc_rangeFuncP (S := [fb1 d1 lb, fb2 d2 (S.fl + 1), Xf S v sp]) (L0 := [b2C c2 lb, b3C c3 to, b4C c4 0, YB lb rb S v] ++ (Xe rb db S.R w ++ ZA db k D)) (R := R) (R0 := ?r0) rfl rfl (from16_iter ρ1 lb rb d1 d2 (S.fl + 1) S v sp h) (Hp.le_refl _) (fun _ => rfl) rfl
   (fun pre ρ2 Lu => ∃ R1 D1 f1 w1 k1, (∀ rest, Vr to (pre ++ rest) S.R D S.fl = Vr to rest R1 D1 f1) ∧ ρ1.le ρ2 ∧ RIn ρ2 R1 w1 ∧ DOk k1 D1 ∧ Lu = [b2C c2 lb, b3C c3 to, b4C c4 0, YB lb rb (S.at R1 f1) v] ++ (Xe rb db R1 w1 ++ ZA db k1 D1))
   (fun c ρ2 Lu => ((c = .exit 0 ∧ eq = 0) ∨ (c = .ret ∧ eq ≠ 0)) ∧ ∃ w1 k1, ρ1.le ρ2 ∧ RIn ρ2 Rq w1 ∧ DOk k1 Dq ∧ Lu = [b2C c2 lb, b3C c3 to, b4C c4 eq, YB lb rb (S.at Rq fq) v] ++ (Xe rb db Rq w1 ++ ZA db k1 Dq)) ?k1 ?k2 ⟨S.R, D, S.fl, w, k, fun _ => rfl, Hp.le_refl _, hR, hD, rfl⟩ ?hC ?round ?done ?stop
  case k1 => exact tk
  case k2 => exact tk
  case hC =>
   rintro ρ2 Lu ⟨R1, D1, f1, w1, k1, h1, _, _, _, rfl⟩
   have := h1 []
   simp only [List.append_nil, Vr, Prod.mk.injEq] at this
   obtain ⟨rfl, rfl, rfl, _⟩ := this
   exact ⟨[b2C c2 lb, b3C c3 to, b4C c4 0], Xe rb db S.R w1 ++ ZA db k1 D, rfl⟩
  case round =>
   rintro l tm r pre y ρ2 Lu u R' hpre hl1 ⟨R1, D1, f1, w1, k1, hgo, hl2, hR1, hD1, rfl⟩ hr hrec
   simp only [envP, List.cons_append, List.nil_append]
   obtain ⟨t, ht⟩ := hpre
   have hmem : y ∈ S.recs := fromL_mem (lsn := S.fl + 1) (by rw [← ht]; simp)
   have hin := (h.rin y hmem).mono hl2
   have hok := h.ok y hmem
   have hgo1 := hgo (y :: t)
   have ht' : pre ++ y :: t = fromL S (S.fl + 1) := by rw [← ht]; simp
   have hgo2 := fun rest => hgo (y :: rest)
   rw [ht', hq] at hgo1
   obtain ⟨yv, yr⟩ := y
   dsimp only at hin hok hgo1 hgo2
   rw [Vr] at hgo1
   simp only [Vr] at hgo2
   repeat' (first | (refine Zg ?_; first | (refine Zf ?_; refine qQ ?_) | refine Zj ?_) | refine Za ?_ | (refine Zh ?_; refine Zu ?_) | (refine Zi ?_; refine Zv ?_) | intro _)
   refine ZV [(l, .loop r)] ?_
   refine te_begin rfl hr (fun r' hbz hrec' => ?_)
   by_cases hgt : to < yr.lsn
   ·rw [if_pos hgt] at hgo1
    simp only [Prod.mk.injEq] at hgo1
    obtain ⟨rfl, rfl, rfl, rfl⟩ := hgo1
    repeat' (first | (refine Zg ?_; first | (refine Zf ?_; refine qQ ?_) | refine Zj ?_) | refine Za ?_ | (refine Zh ?_; refine Zu ?_) | (refine Zi ?_; refine Zv ?_) | intro _)
    refine ZV [(l, .loop r')] ?_
    refine te_leave (Lu := [b2C c2 lb, b3C c3 to, b4C c4 0, YB lb rb (S.at Rq fq) v] ++ (Xe rb db Rq w1 ++ ZA db k1 Dq)) rfl rfl (Hp.le_refl _) ⟨hrec'.tmps.trans hrec.tmps, hrec'.params.trans hrec.params, hrec'.assign.trans hrec.assign, hrec'.body.trans hrec.body⟩ tk tk inferInstance ?_
    exact ⟨.inl ⟨rfl, rfl⟩, w1, k1, hl2, hR1, hD1, rfl⟩
   ·rw [if_neg hgt] at hgo1
    simp only [if_neg hgt] at hgo2
    have henc := rencode_spec ρ2 yv yr hin
    rw [hok] at henc
    simp only [if_true] at henc
    have hlen := recB_le (recOk_lay hok)
    have happ := fun {ρ3 : Hp} {a : Option Addr} {n c : Nat} (hl : ρ2.le ρ3) (hs : SIn ρ3 ZD a n (WN yr)) (hc : n ≤ c) => append_spec ρ3 rb db R1 w1 (hR1.mono hl) k1 D1 hD1 [] a n c (WN yr) hs.rd hc (by have := hs.len; omega)
    repeat' (first | (refine Zc (.func 56) ?_; refine qC rfl rfl (henc) ?_; rintro v ρ' L' hle ⟨hl3, ea, en, ec, rfl, hec, hes, rfl⟩ <;> (try simp only [kM, kN, kO])) | (refine Zc (.func 57) ?_; refine qC rfl rfl (happ (by assumption) hes hec) ?_; rintro v4 ρ4 L4 hle4 ⟨rfl, hl4, k4, w4, hD4, hR4, rfl⟩; try simp only [List.cons_append, List.nil_append, List.append_nil, List.append_assoc, List.append_eq]) | (refine Zg ?_; first | (refine Zf ?_; refine qQ ?_) | refine Zj ?_) | refine Za ?_ | (refine Zh ?_; refine Zu ?_) | (refine Zi ?_; refine Zv ?_) | intro _)
    generalize R1.append (WN yr) D1 = ap at *
    obtain ⟨Ra, Da, ea⟩ := ap
    dsimp only at *
    by_cases hz : ea = 0
    ·subst hz
     rw [if_pos rfl] at hgo1
     simp only [if_true] at hgo2
     rw [show ((0 : Int) != 0) = false from rfl]
     repeat' (first | (refine Zg ?_; first | (refine Zf ?_; refine qQ ?_) | refine Zj ?_) | refine Za ?_ | (refine Zh ?_; refine Zu ?_) | (refine Zi ?_; refine Zv ?_) | intro _)
     refine ZV [(l, .loop r')] ?_
     refine Vx (Lu := [b2C c2 lb, b3C c3 to, b4C c4 0, YB lb rb (S.at Ra yr.lsn) v] ++ (Xe rb db Ra w4 ++ ZA db k4 Da)) rfl (Hp.le_trans hl3 hl4) ⟨hrec'.tmps.trans hrec.tmps, hrec'.params.trans hrec.params, hrec'.assign.trans hrec.assign, hrec'.body.trans hrec.body⟩ tk tk inferInstance ?_
     exact ⟨Ra, Da, yr.lsn, w4, k4, hgo2, Hp.le_trans hl2 (Hp.le_trans hl3 hl4), hR4, hD4, rfl⟩
    ·rw [if_neg hz] at hgo1
     simp only [Prod.mk.injEq] at hgo1
     obtain ⟨rfl, rfl, rfl, rfl⟩ := hgo1
     have hcb : (eq != 0) = true := by simpa using hz
     rw [hcb]
     repeat' (first | (refine Zg ?_; first | (refine Zf ?_; refine qQ ?_) | refine Zj ?_) | refine Za ?_ | (refine Zh ?_; refine Zu ?_) | (refine Zi ?_; refine Zv ?_) | intro _)
     refine ZV [(l, .loop r')] ?_
     refine te_leave (Lu := [b2C c2 lb, b3C c3 to, b4C c4 eq, YB lb rb (S.at Rq fq) v] ++ (Xe rb db Rq w4 ++ ZA db k4 Dq)) rfl rfl (Hp.le_trans hl3 hl4) ⟨hrec'.tmps.trans hrec.tmps, hrec'.params.trans hrec.params, hrec'.assign.trans hrec.assign, hrec'.body.trans hrec.body⟩ tk tk inferInstance ?_
     exact ⟨.inr ⟨rfl, hz⟩, w4, k4, Hp.le_trans hl2 (Hp.le_trans hl3 hl4), hR4, hD4, rfl⟩
  case done =>
   rintro D0 ρ2 Lu hl1 ⟨R1, D1, f1, w1, k1, hgo, hl2, hR1, hD1, rfl⟩
   have := hgo []
   rw [List.append_nil, hq] at this
   simp only [Vr, Prod.mk.injEq] at this
   obtain ⟨rfl, rfl, rfl, rfl⟩ := this
   simp only [List.cons_append, List.nil_append]
   repeat' (first | (refine Zg ?_; first | (refine Zf ?_; refine qQ ?_) | refine Zj ?_) | refine Za ?_ | (refine Zh ?_; refine Zu ?_) | (refine Zi ?_; refine Zv ?_) | intro _)
   refine ZV [(D0, .deferred (some []))] ?_
   exact Wa rfl rfl rfl inferInstance (res1 rfl (ZJ rfl rfl)) hl2 tk (by infer_instance) (L' := YB lb rb (S.at Rq fq) v :: Xf S v sp :: (Xe rb db Rq w1 ++ ZA db k1 Dq)) ⟨rfl, hl2, w1, k1, hR1, hD1, rfl⟩
  case stop =>
   rintro D0 c ρ2 Lu hl1 ⟨hc, w1, k1, hl2, hR1, hD1, rfl⟩
   simp only [List.cons_append, List.nil_append]
   rcases hc with ⟨rfl, rfl⟩ | ⟨rfl, hne⟩
   ·repeat' (first | (refine Zg ?_; first | (refine Zf ?_; refine qQ ?_) | refine Zj ?_) | refine Za ?_ | (refine Zh ?_; refine Zu ?_) | (refine Zi ?_; refine Zv ?_) | intro _)
    refine ZV [(D0, .deferred (some []))] ?_
    exact Wa rfl rfl rfl inferInstance (res1 rfl (ZJ rfl rfl)) hl2 tk (by infer_instance) (L' := YB lb rb (S.at Rq fq) v :: Xf S v sp :: (Xe rb db Rq w1 ++ ZA db k1 Dq)) ⟨rfl, hl2, w1, k1, hR1, hD1, rfl⟩
   ·repeat' (first | (refine Zg ?_; first | (refine Zf ?_; refine qQ ?_) | refine Zj ?_) | refine Za ?_ | (refine Zh ?_; refine Zu ?_) | (refine Zi ?_; refine Zv ?_) | intro _)
    refine ZV [(D0, .deferred (some []))] ?_
    exact Wa rfl rfl rfl inferInstance (res1 rfl (ZJ rfl rfl)) hl2 tk (by infer_instance) (L' := YB lb rb (S.at Rq fq) v :: Xf S v sp :: (Xe rb db Rq w1 ++ ZA db k1 Dq)) ⟨rfl, hl2, w1, k1, hR1, hD1, rfl⟩
def zRR : RR := (⟨⟨none, 0, 0⟩, ⟨none, 0, 0⟩, ⟨none, 0, 0⟩, ⟨none, 0, 0⟩⟩, ⟨0, 0, 0, 0, 0, [], [], 0, [], []⟩)
def firstIs (lsn : Nat) : List RR → Option RR
 | [] => none
 | x :: _ => if x.2.lsn = lsn then some x else none
def recF (S : LgS) (lsn : Nat) : Option RR := firstIs lsn (fromL S lsn)
abbrev recAns (o : Option RR) : Value := .tuple ⟨[.agg ⟨rrV (o.getD zRR)⟩, .int .i64 (if o.isSome then 0 else 4)]⟩
abbrev rc4 (b : Nat) (x : RR) : List (Nat × Obj) := [(b, .cells ⟨rrV x⟩ 34 (0, 0))]
theorem rec16_spec (ρ : Hp) (lb rb : Nat) (S : LgS) (v : Value) (sp : List Value) (h : LgIn ρ S v sp) (lsn : Nat) :
  Spec Tryz.prog 10 [.pointer (some ⟨lb, 0, none⟩), .int .u64 (lsn : Nat)] ρ [YB lb rb S v, Xf S v sp] (fun z ρ' L' => z = recAns (recF S lsn) ∧ ρ.le ρ' ∧ L' = [YB lb rb S v, Xf S v sp]) := by
 generalize ho : recF S lsn = o
 refine Ze Tryz.func10 rfl rfl rfl fun u R => ?_
 simp only [Zt, List.cons_append, List.nil_append]
 repeat' (first | (refine Zc (.func 54) ?_; refine qC rfl rfl (from16_spec _ lb lsn) ?_; rintro v1 ρ1 L1 hle1 ⟨d1, d2, rfl, rfl, rfl⟩; simp only [List.cons_append, List.nil_append]) | (refine Zg ?_; first | (refine Zf ?_; refine qQ ?_) | refine Zj ?_) | refine Za ?_ | (refine Zh ?_; refine Zu ?_) | (refine Zi ?_; refine Zv ?_) | intro _)
 rename_i c3 c4 c5
 refine tc_rangeFuncP (S := [fb1 d1 lb, fb2 d2 lsn, Xf S v sp]) (L0 := [b3C c3 lsn, rc4 c4 zRR, b4C c5 0, YB lb rb S v]) (R := R) (R0 := ?r0) rfl rfl (from16_iter ρ1 lb rb d1 d2 lsn S v sp h) (Hp.le_refl _) (fun _ => rfl) rfl
   (fun pre ρ2 Lu => pre = [] ∧ ρ1.le ρ2 ∧ Lu = [b3C c3 lsn, rc4 c4 zRR, b4C c5 0, YB lb rb S v])
   (fun c ρ2 Lu => ρ1.le ρ2 ∧ ((c = .exit 0 ∧ o = none ∧ Lu = [b3C c3 lsn, rc4 c4 zRR, b4C c5 0, YB lb rb S v]) ∨ ∃ x, c = .ret ∧ o = some x ∧ Lu = [b3C c3 lsn, rc4 c4 x, b4C c5 0, YB lb rb S v])) ?k1 ?k2 ⟨rfl, Hp.le_refl _, rfl⟩ ?hC ?round ?done ?stop
 case k1 => exact tk
 case k2 => exact tk
 case hC =>
  rintro ρ2 Lu ⟨_, _, rfl⟩
  exact ⟨[b3C c3 lsn, rc4 c4 zRR, b4C c5 0], [], rfl⟩
 case round =>
  rintro l tm r pre y ρ2 Lu u R' hpre hl1 ⟨rfl, hl2, rfl⟩ hr hrec
  simp only [envP, List.cons_append, List.nil_append]
  obtain ⟨t, ht⟩ := hpre
  have ho1 : o = if y.2.lsn = lsn then some y else none := by
   rw [← ho]; unfold recF; rw [← ht]; rfl
  obtain ⟨yv, yr⟩ := y
  dsimp only at ho1
  repeat' (first | (refine Zg ?_; first | (refine Zf ?_; refine qQ ?_) | refine Zj ?_) | refine Za ?_ | (refine Zh ?_; refine Zu ?_) | (refine Zi ?_; refine Zv ?_) | intro _)
  refine ZV [(l, .loop r)] ?_
  refine te_begin rfl hr (fun r' hbz hrec' => ?_)
  by_cases he : yr.lsn = lsn
  ·rw [if_pos he] at ho1
   subst he
   repeat' (first | (refine Zg ?_; first | (refine Zf ?_; refine qQ ?_) | refine Zj ?_) | refine Za ?_ | (refine Zh ?_; refine Zu ?_) | (refine Zi ?_; refine Zv ?_) | intro _)
   refine ZV [(l, .loop r')] ?_
   refine te_leave (Lu := [b3C c3 yr.lsn, rc4 c4 (yv, yr), b4C c5 0, YB lb rb S v]) rfl rfl (Hp.le_refl _) ⟨hrec'.tmps.trans hrec.tmps, hrec'.params.trans hrec.params, hrec'.assign.trans hrec.assign, hrec'.body.trans hrec.body⟩ tk tk inferInstance ?_
   exact ⟨hl2, .inr ⟨_, rfl, ho1, rfl⟩⟩
  ·rw [if_neg he] at ho1
   have he2 : ¬ ((yr.lsn : Nat) : Int) = ((lsn : Nat) : Int) := by omega
   repeat' (first | (refine Zg ?_; first | (refine Zf ?_; refine qQ ?_) | refine Zj ?_) | refine Za ?_ | (refine Zh ?_; refine Zu ?_) | (refine Zi ?_; refine Zv ?_) | intro _)
   refine ZV [(l, .loop r')] ?_
   refine te_leave (Lu := [b3C c3 lsn, rc4 c4 zRR, b4C c5 0, YB lb rb S v]) rfl rfl (Hp.le_refl _) ⟨hrec'.tmps.trans hrec.tmps, hrec'.params.trans hrec.params, hrec'.assign.trans hrec.assign, hrec'.body.trans hrec.body⟩ tk tk inferInstance ?_
   exact ⟨hl2, .inl ⟨rfl, ho1, rfl⟩⟩
 case done =>
  rintro D0 ρ2 Lu hl1 ⟨he, hl2, rfl⟩
  have ho1 : o = none := by rw [← ho]; unfold recF; rw [he]; rfl
  subst ho1
  simp only [List.cons_append, List.nil_append]
  repeat' (first | (refine Zg ?_; first | (refine Zf ?_; refine qQ ?_) | refine Zj ?_) | refine Za ?_ | (refine Zh ?_; refine Zu ?_) | (refine Zi ?_; refine Zv ?_) | intro _)
  refine ZV [(D0, .deferred (some []))] ?_
  exact Wa rfl rfl rfl inferInstance (res2 rfl (ZZ rfl rfl) (ZJ rfl rfl)) hl2 tk (by infer_instance) (L' := [YB lb rb S v, Xf S v sp]) ⟨rfl, hl2, rfl⟩
 case stop =>
  rintro D0 c ρ2 Lu hl1 ⟨hl2, ⟨rfl, rfl, rfl⟩ | ⟨x, rfl, rfl, rfl⟩⟩
  ·simp only [List.cons_append, List.nil_append]
   repeat' (first | (refine Zg ?_; first | (refine Zf ?_; refine qQ ?_) | refine Zj ?_) | refine Za ?_ | (refine Zh ?_; refine Zu ?_) | (refine Zi ?_; refine Zv ?_) | intro _)
   refine ZV [(D0, .deferred (some []))] ?_
   exact Wa rfl rfl rfl inferInstance (res2 rfl (ZZ rfl rfl) (ZJ rfl rfl)) hl2 tk (by infer_instance) (L' := [YB lb rb S v, Xf S v sp]) ⟨rfl, hl2, rfl⟩
  ·simp only [List.cons_append, List.nil_append]
   repeat' (first | (refine Zg ?_; first | (refine Zf ?_; refine qQ ?_) | refine Zj ?_) | refine Za ?_ | (refine Zh ?_; refine Zu ?_) | (refine Zi ?_; refine Zv ?_) | intro _)
   refine ZV [(D0, .deferred (some []))] ?_
   exact Wa rfl rfl rfl inferInstance (res2 rfl (ZZ rfl rfl) (ZJ rfl rfl)) hl2 tk (by infer_instance) (L' := [YB lb rb S v, Xf S v sp]) ⟨rfl, hl2, rfl⟩
structure EvV where
 kind : Int
 n : Int
 b : BSl
 note : BSl
 ka : Option Addr
 kn : Nat
 kp : Nat
 ks : List Bool
structure EvIn (ρ : Hp) (e : EvV) : Prop where
 n : -9223372036854775808 ≤ e.n ∧ e.n ≤ 9223372036854775807
 kind : -9223372036854775808 ≤ e.kind ∧ e.kind ≤ 9223372036854775807
 b : BIn ρ e.b
 bbg : e.b.n ≤ 9223372036854775807
 note : BIn ρ e.note
 nb : e.note.n ≤ 9223372036854775807
 ks : SIn ρ bb e.ka e.kn e.ks
 kc : e.kn ≤ e.kp
 kb : e.kn ≤ 9223372036854775807
theorem EvIn.mono {ρ ρ' : Hp} {e : EvV} (h : EvIn ρ e) (hle : ρ.le ρ') : EvIn ρ' e := ⟨h.n, h.kind, h.b.mono hle, h.bbg, h.note.mono hle, h.nb, h.ks.mono hle, h.kc, h.kb⟩
theorem Good.append2 {R : RgS} {D : DS} {b : Bs} (h : Good R D) (hb : b.length ≤ 8000) (hn : R.next < 1099511627776) (hfit : ZS b.length ≤ R.h.size - R.used) :
  ∃ D', R.append b D = (R.plus b, D', 0) ∧ Good (R.plus b) D' ∧ D'.secs.length = D.secs.length ∧ ∀ i, R.h.size + 2 ≤ i → img D' i = img D i := by
 have hsz := h.ro.ok.size
 have hlen := h.ro.len
 have hidx : ∀ p ∈ Yz R.h R.next b (R.h.place + R.used), p.1 < R.h.size + 2 := fun p hp => by
  obtain ⟨k, hk, rfl⟩ := partsL_mem.1 hp
  have := Nat.mod_lt (R.h.place + R.used + k) (show 0 < R.h.size by omega)
  dsimp only; omega
 obtain ⟨l0, l1, l2⟩ := XT (Yz R.h R.next b (R.h.place + R.used)) D h.calm (fun p hp => by have := hidx p hp; omega)
 have ha := (h.ro.append h.frs hb hfit hn).1 l0
 refine ⟨(DS.lays (Yz R.h R.next b (R.h.place + R.used)) D).1, ?_, ⟨ha.1, ha.2, l1⟩, Xb _ _, fun i hi => ?_⟩
 ·unfold RgS.append
  rw [h.ro.live, if_neg (by simp), if_neg (by omega), if_neg (by omega), if_pos l0, calm_pair l0]
  rfl
 ·rcases Xy h.ro.empty l2 D rfl i with e | ⟨p, hp, h1, _⟩
  ·exact e
  ·have := hidx p hp; omega
def lastF (f : Nat) : List RR → Nat
 | [] => f
 | x :: l => lastF x.2.lsn l
abbrev upTo (to : Nat) (l : List RR) : List RR := l.takeWhile (fun x => decide (x.2.lsn ≤ to))
theorem costN_ok {r : Rc} (h : Wo r = true) : costN r = ZS (WN r).length := by unfold costN; rw [if_pos h]; rfl
theorem flushL_good (to : Nat) : ∀ (l : List RR) (R : RgS) (D : DS) (f : Nat), Good R D → (∀ x ∈ l, Wo x.2 = true) → Wf l ≤ R.h.size - R.used → R.next + l.length ≤ 1099511627776 →
  ∃ R' D', Vr to l R D f = (R', D', lastF f (upTo to l), 0) ∧ Good R' D' ∧ R'.h = R.h ∧ R'.ents = R.ents ++ (upTo to l).map (fun x => WN x.2) ∧ R'.used = R.used + Wf (upTo to l) ∧ D'.secs.length = D.secs.length ∧ ∀ i, R.h.size + 2 ≤ i → img D' i = img D i
 | [], R, D, f, g, _, _, _ => ⟨R, D, rfl, g, rfl, by simp, by simp [Wf], rfl, fun _ _ => rfl⟩
 | x :: l, R, D, f, g, hok, hu, hn => by
  have hx := hok x (by simp)
  have hc := costN_ok hx
  have hlen := recB_le (recOk_lay hx)
  simp only [Wf, List.map_cons, List.sum_cons] at hu
  simp only [List.length_cons] at hn
  unfold upTo
  rw [Vr, List.takeWhile_cons]
  by_cases hto : to < x.2.lsn
  ·rw [if_pos hto, decide_eq_false (by omega)]
   exact ⟨R, D, rfl, g, rfl, by simp, by simp [Wf], rfl, fun _ _ => rfl⟩
  ·rw [if_neg hto, decide_eq_true (by omega)]
   obtain ⟨D', e, g', hl', hi'⟩ := g.append2 (b := WN x.2) (by omega) (by omega) (by omega)
   have hnx : (R.plus (WN x.2)).next = R.next + 1 := by simp [RgS.plus, RgS.next]; omega
   have hus : (R.plus (WN x.2)).used = R.used + ZS (WN x.2).length := rfl
   obtain ⟨R2, D2, e2, g2, h2, he2, hu2, hl2, hi2⟩ := flushL_good to l (R.plus (WN x.2)) D' x.2.lsn g' (fun y hy => hok y (by simp [hy])) (by rw [hus]; show _ ≤ R.h.size - _; unfold Wf; omega) (by rw [hnx]; omega)
   rw [e]
   dsimp only
   rw [if_pos rfl, e2]
   refine ⟨R2, D2, rfl, g2, h2, ?_, ?_, hl2.trans hl', fun i hi => (hi2 i hi).trans (hi' i hi)⟩
   ·rw [he2]; simp [RgS.plus, upTo]
   ·rw [hu2, hus, ← hc]; simp [Wf, upTo]; omega
def newLg (R : RgS) : LgS := ⟨R, 1, 0, 0, 1, []⟩
theorem newLg_in {ρ : Hp} {R : RgS} : LgIn ρ (newLg R) (.slice none 0 0) [] := ⟨OwnS.nil 10, by simp [newLg], by simp [newLg], by simp [newLg, Wf], by simp [newLg]⟩
theorem kformat16 (ρ : Hp) (n m : Nat) (hn0 : 4 ≤ n) (hn1 : n ≤ 1000) (hm : n + 2 ≤ m) (hm1 : m ≤ 2048) (db : Nat) (k : DK) (hk : DOk k (DS.new m)) :
  Spec Tryz.prog 8 [.pointer (some ⟨db, 0, none⟩), .int .i64 n] ρ (ZA db k (DS.new m)) (fun v ρ' L' => ρ.le ρ' ∧ ∃ lb rb w k' D', v = .tuple ⟨[.pointer (some ⟨lb, 0, none⟩), .int .i64 0]⟩ ∧ DOk k' D' ∧ RIn ρ' ⟨ZY n, [], 0, false⟩ w ∧ Good ⟨ZY n, [], 0, false⟩ D' ∧ D'.secs.length = m ∧ L' = YB lb rb (newLg ⟨ZY n, [], 0, false⟩) (.slice none 0 0) :: (Xe rb db ⟨ZY n, [], 0, false⟩ w ++ ZA db k' D')) := by
 obtain ⟨D', e, g⟩ := Good.format (D := DS.new m) (n := n) (new_okD (by omega) hm1) new_calm hn0 hn1 (by simp [DS.new, fresh]; omega) fresh_empty
 have hlen : D'.secs.length = m := by
  unfold WT at e
  split at e
  ·simp at e
  ·split at e
   ·split at e
    ·have := congrArg (fun x => x.2.1.secs.length) e
     dsimp only at this
     rw [← this, Xb, Xb]; simp [DS.new, fresh]
    ·simp at e
   ·simp at e
 have hf := format_spec ρ db k (DS.new m) hk n (by omega)
 rw [e] at hf
 refine Ze Tryz.func8 rfl rfl rfl fun u R => ?_
 simp only [Zt, List.cons_append, List.nil_append]
 repeat' (first | (refine Zc (.func 45) ?_; refine qC rfl rfl hf ?_; rintro v1 ρ1 L1 hle1 ⟨hl1, k1, hk1, rb, w, rfl, hr, rfl⟩; try simp only [List.cons_append, List.nil_append, List.append_assoc]) | (refine Zg ?_; first | (refine Zf ?_; refine qQ ?_) | refine Zj ?_) | refine Za ?_ | (refine Zh ?_; refine Zu ?_) | (refine Zi ?_; refine Zv ?_) | intro _)
 rename_i lb
 exact qE (L' := YB lb rb (newLg ⟨ZY n, [], 0, false⟩) (.slice none 0 0) :: (Xe rb db ⟨ZY n, [], 0, false⟩ w ++ ZA db k1 D')) ⟨hl1, lb, rb, w, k1, D', rfl, hk1, hr, g, hlen, rfl⟩
def Vh (x : Nat) : Nat := if x % 2 = 1 then (x / 2) ^^^ 2197175160 else x / 2
def hit : Nat → Nat → Nat
 | 0, x => x
 | j + 1, x => Vh (hit j x)
theorem hstep_lt {x : Nat} (h : x < 4294967296) : Vh x < 4294967296 := by
 unfold Vh
 split
 ·exact Nat.xor_lt_two_pow (n := 32) (by omega) (by decide)
 ·omega
theorem hit_lt {x : Nat} (h : x < 4294967296) : ∀ j, hit j x < 4294967296
 | 0 => h
 | j + 1 => hstep_lt (hit_lt h j)
def tabV : List Value := (List.range 16).map fun n => .int .u32 (hit 4 n : Nat)
def tabU (i : Nat) : List Value := ((List.range i).map fun n => Value.int .u32 (hit 4 n : Nat)) ++ List.replicate (16 - i) (.int .u32 0)
theorem tabU_len {i : Nat} (h : i ≤ 16) : (tabU i).length = 16 := by simp [tabU]; omega
theorem stc_at (A B : List Value) (x y : Value) {i : Nat} (h : A.length = i) : stc (A ++ x :: B) (0 + i * 1) [y] = A ++ y :: B := by
 unfold stc
 rw [Nat.zero_add, Nat.mul_one, List.take_left' h]
 have hd : List.drop (i + [y].length) (A ++ x :: B) = B := by
  rw [List.drop_append, List.drop_eq_nil_of_le (by simp; omega)]
  simp [← h]
 rw [hd]; simp
theorem tabU_set {i : Nat} (h : i < 16) : stc (tabU i) (0 + i * 1) [Value.int .u32 (hit 4 i : Nat)] = tabU (i + 1) := by
 unfold tabU
 have e : 16 - i = (16 - (i + 1)) + 1 := by omega
 rw [e, List.replicate_succ, stc_at _ _ _ _ (by simp), List.range_succ, List.map_append]
 simp
theorem halves_spec (ρ : Hp) : Spec Tryz.prog 262 [] ρ [] (fun v ρ' L' => v = .agg ⟨tabV⟩ ∧ ρ' = ρ ∧ L' = []) := by
 refine Ze Tryz.func262 rfl rfl rfl fun u R => ?_
 simp only [Zt, List.cons_append, List.nil_append]
 repeat' (first | (refine Zg ?_; first | (refine Zf ?_; refine qQ ?_) | refine Zj ?_ | refine qAn ?_ | refine qXo ?_ | refine qNt ?_) | refine Za ?_ | (refine Zh ?_; refine Zu ?_) | (refine Zi ?_; refine Zv ?_) | intro _)
 rename_i b0 b1
 refine ZH [(0, _), (1, _)] (fun (ζ : (Nat) × (List Value)) => [(4, .int .i64 ζ.1)]) (fun (ζ : (Nat) × (List Value)) => ρ) (fun (ζ : (Nat) × (List Value)) => [[(b1, .cells ⟨ζ.2⟩ 342 (0, 0))]]) (fun (ζ : (Nat) × (List Value)) => ζ.1 ≤ 16 ∧ ζ.2 = tabU ζ.1) (fun (ζ : (Nat) × (List Value)) => 16 - ζ.1) ((0, List.replicate 16 (.int .u32 0))) (⟨Nat.zero_le _, rfl⟩) Zo Zo rfl tk ?_
 rintro ⟨i, cs⟩ hI
 try simp only [List.cons_append, List.nil_append, List.append_assoc, List.append_eq] at hI ⊢
 try dsimp only at hI ⊢
 obtain ⟨hi, rfl⟩ := hI
 have hcl := tabU_len hi
 by_cases hlt : i < 16
 ·have hst := tabU_set hlt
  repeat' (first | (refine Zg ?_; first | (refine Zf ?_; refine qQ ?_) | refine Zj ?_ | refine qAn ?_ | refine qXo ?_ | refine qNt ?_) | refine Za ?_ | (refine Zh ?_; refine Zu ?_) | (refine Zi ?_; refine Zv ?_) | intro _)
  refine ZH [(0, _), (1, _), (2, _), (4, _), (5, _), (6, _), (7, _), (8, _)] (fun (ζ : (Nat) × (Nat)) => [(9, .int .i64 ζ.1), (3, .int .u32 ζ.2)]) (fun (ζ : (Nat) × (Nat)) => ρ) (fun (ζ : (Nat) × (Nat)) => []) (fun (ζ : (Nat) × (Nat)) => ζ.1 ≤ 4 ∧ ζ.2 = hit ζ.1 i) (fun (ζ : (Nat) × (Nat)) => 4 - ζ.1) ((0, i)) (⟨Nat.zero_le _, rfl⟩) Zo Zo rfl tk ?_
  rintro ⟨j, y⟩ hI
  try simp only [List.cons_append, List.nil_append, List.append_assoc, List.append_eq] at hI ⊢
  try dsimp only at hI ⊢
  obtain ⟨hj, rfl⟩ := hI
  have hyl := hit_lt (x := i) (by omega) j
  by_cases hlj : j < 4
  ·generalize hy : hit j i = y at *
   have hand : andI (y : Int) 1 = ((y % 2 : Nat) : Int) := by simp [andI, Nat.and_one_is_mod]
   have hnx : hit (j + 1) i = Vh y := by rw [← hy]; rfl
   unfold Vh at hnx
   have hdv : ((y : Nat) : Int) / 2 ^ 1 = ((y / 2 : Nat) : Int) := by omega
   by_cases ho : y % 2 = 1
   ·rw [if_pos ho] at hnx
    have hxo : xorI ((y / 2 : Nat) : Int) 2197175160 = ((hit (j + 1) i : Nat) : Int) := by
     rw [hnx]
     show ((((y / 2 : Nat) : Int).toNat ^^^ (2197175160 : Int).toNat : Nat) : Int) = _
     rw [Int.toNat_natCast]; rfl
    rw [ho] at hand
    repeat' (first | (refine Zg ?_; first | (refine Zf ?_; refine qQ ?_) | refine Zj ?_ | refine qAn ?_ | refine qXo ?_ | refine qNt ?_) | refine Za ?_ | (refine Zh ?_; refine Zu ?_) | (refine Zi ?_; refine Zv ?_) | intro _)
    simp only [hdv, hxo]
    refine Zx (j + 1, _) (⟨hlj, rfl⟩) Zo Zo rfl tk inferInstance (by first | omega | (dsimp only; omega))
   ·rw [if_neg ho] at hnx
    rw [show y % 2 = 0 by omega] at hand
    repeat' (first | (refine Zg ?_; first | (refine Zf ?_; refine qQ ?_) | refine Zj ?_ | refine qAn ?_ | refine qXo ?_ | refine qNt ?_) | refine Za ?_ | (refine Zh ?_; refine Zu ?_) | (refine Zi ?_; refine Zv ?_) | intro _)
    simp only [hdv, ← hnx]
    refine Zx (j + 1, _) (⟨hlj, rfl⟩) Zo Zo rfl tk inferInstance (by first | omega | (dsimp only; omega))
  ·have h4 : j = 4 := by omega
   subst h4
   repeat' (first | (refine Zg ?_; first | (refine Zf ?_; refine qQ ?_) | refine Zj ?_ | refine qAn ?_ | refine qXo ?_ | refine qNt ?_) | refine Za ?_ | (refine Zh ?_; refine Zu ?_) | (refine Zi ?_; refine Zv ?_) | intro _)
   rw [hst]
   refine Zx (i + 1, _) (⟨hlt, rfl⟩) Zo Zo rfl tk inferInstance (by first | omega | (dsimp only; omega))
 ·have h16 : i = 16 := by omega
  subst h16
  have ht : tabU 16 = tabV := by simp [tabU, tabV]
  rw [ht] at hcl ⊢
  repeat' (first | (refine Zg ?_; first | (refine Zf ?_; refine qQ ?_) | refine Zj ?_ | refine qAn ?_ | refine qXo ?_ | refine qNt ?_) | refine Za ?_ | (refine Zh ?_; refine Zu ?_) | (refine Zi ?_; refine Zv ?_) | intro _)
  exact qE (L' := []) ⟨rfl, rfl, rfl⟩
def hal (l n : Nat) : Nat := (l / 16) ^^^ hit 4 ((l ^^^ n) &&& 15)
def byt (l : Nat) (c : UInt8) : Nat := hal (hal l (c.toNat &&& 15)) (c.toNat / 16)
def goesN (l : Nat) (b : List UInt8) : Nat := b.foldl byt l
def sumB (b : List UInt8) : Nat := 4294967295 ^^^ goesN 4294967295 b
theorem and15 (n : Nat) : n &&& 15 < 16 := Nat.lt_of_le_of_lt Nat.and_le_right (by decide)
theorem hal_lt {l n : Nat} (h : l < 4294967296) : hal l n < 4294967296 := by
 unfold hal
 exact Nat.xor_lt_two_pow (n := 32) (by omega) (hit_lt (by have := and15 (l ^^^ n); omega) 4)
theorem byt_lt {l : Nat} {c : UInt8} (h : l < 4294967296) : byt l c < 4294967296 := hal_lt (hal_lt h)
theorem goesN_lt : ∀ (b : List UInt8) {l : Nat}, l < 4294967296 → goesN l b < 4294967296
 | [], l, h => h
 | c :: r, l, h => by show goesN (byt l c) r < _; exact goesN_lt r (byt_lt h)
theorem sumB_lt (b : List UInt8) : sumB b < 4294967296 := Nat.xor_lt_two_pow (n := 32) (by decide) (goesN_lt b (by decide))
theorem tabV_len : tabV.length = 16 := by simp [tabV]
theorem tabV_at {i : Nat} (h : i < 16) : tabV[0 + i * 1]? = some (.int .u32 (hit 4 i : Nat)) := by
 simp [tabV, h]
theorem goes1_spec (ρ : Hp) (lb tb l n : Nat) (hl : l < 4294967296) (hn : n < 256) :
  Spec Tryz.prog 263 [.int .u8 n, .pointer (some ⟨lb, 0, none⟩), .pointer (some ⟨tb, 0, none⟩)] ρ [[(lb, .cells ⟨[.int .u32 l]⟩ 192 (0, 0))], [(tb, .cells ⟨tabV⟩ 342 (0, 0))]]
   (fun v ρ' L' => v = .tuple ⟨[]⟩ ∧ ρ' = ρ ∧ L' = [[(lb, .cells ⟨[.int .u32 (hal l n : Nat)]⟩ 192 (0, 0))], [(tb, .cells ⟨tabV⟩ 342 (0, 0))]]) := by
 have hx : xorI (l : Int) (n : Int) = ((l ^^^ n : Nat) : Int) := by simp [xorI]
 have hxl : l ^^^ n < 4294967296 := Nat.xor_lt_two_pow (n := 32) (by omega) (by omega)
 have ha : andI ((l ^^^ n : Nat) : Int) 15 = (((l ^^^ n) &&& 15 : Nat) : Int) := by simp [andI]
 have hal' := and15 (l ^^^ n)
 have hlen := tabV_len
 have hat := tabV_at hal'
 have hv := hit_lt (x := (l ^^^ n) &&& 15) (by omega) 4
 have hd : ((l : Nat) : Int) / 2 ^ 4 = ((l / 16 : Nat) : Int) := by omega
 have hr : xorI ((l / 16 : Nat) : Int) ((hit 4 ((l ^^^ n) &&& 15) : Nat) : Int) = ((hal l n : Nat) : Int) := by
  show (((((l / 16 : Nat) : Int).toNat) ^^^ (((hit 4 ((l ^^^ n) &&& 15) : Nat) : Int)).toNat : Nat) : Int) = _
  rw [Int.toNat_natCast, Int.toNat_natCast]; rfl
 generalize (l ^^^ n) &&& 15 = i at *
 have ha2 : andI (xorI (l : Int) (n : Int)) 15 = (i : Int) := by rw [hx, ha]
 have hat2 : tabV[0 + (andI (xorI (l : Int) (n : Int)) 15).toNat * 1]? = some (.int .u32 (hit 4 i : Nat)) := by rw [ha2, Int.toNat_natCast]; exact hat
 have hxb : 0 ≤ xorI (l : Int) (n : Int) ∧ xorI (l : Int) (n : Int) < 4294967296 := by omega
 refine Ze Tryz.func263 rfl rfl rfl fun u R => ?_
 simp only [Zt, List.cons_append, List.nil_append]
 refine Zz (Zr _ _ ([[(tb, .cells ⟨tabV⟩ 342 (0, 0))]])) (Zy (hT := tk) (Hp.le_refl _)) ?_
 all_goals (refine ZO 3 ?_; refine rCv 4 ?_)
 all_goals (refine Xn (i := 0) (j := 2) ?_ ?_ <;> ((try refine Zk ?_); (first | (refine Zf ?_; refine qQ ?_) | (refine Zj ?_; try intro _)) <;> ((try simp only [kM, kN, kO]); refine Za ?_; refine Zl ?_)))
 all_goals (first | refine rSr 1 ?_ | refine rXo 5 ?_)
 all_goals (first | refine rAn 6 ?_ | (refine Zm (i := 2) ?_; ((try refine Zk ?_); (first | (refine Zf ?_; refine qQ ?_) | (refine Zj ?_; try intro _)) <;> ((try simp only [kM, kN, kO]); refine Za ?_; refine Zl ?_))))
 all_goals (first | refine rXo 5 ?_ | refine rIa 7 ?_)
 all_goals (first | refine rAn 6 ?_ | refine ZX 8 ?_)
 all_goals (first | refine rIa 7 ?_ | (refine Zm (i := 0) ?_; ((try refine Zk ?_); (first | (refine Zf ?_; refine qQ ?_) | (refine Zj ?_; try intro _)) <;> ((try simp only [kM, kN, kO]); refine Za ?_; refine Zl ?_))))
 all_goals (first | refine rSr 1 ?_ | refine ZX 8 ?_)
 all_goals refine rXo 9 ?_
 all_goals (refine Zm (i := 10) ?_; ((try refine Zk ?_); (first | (refine Zf ?_; refine qQ ?_) | (refine Zj ?_; try intro _)) <;> ((try simp only [kM, kN, kO]); refine Za ?_; refine Zl ?_)))
 all_goals refine ZI ?_
 all_goals (repeat' (first | (refine Zg ?_; first | (refine Zf ?_; refine qQ ?_) | refine Zj ?_ | refine qAn ?_ | refine qXo ?_ | refine qNt ?_) | refine Za ?_ | (refine Zh ?_; refine Zu ?_) | (refine Zi ?_; refine Zv ?_) | intro _))
 all_goals simp only [hd, hr]
 all_goals exact qE (L' := [[(lb, _)], [(tb, _)]]) ⟨rfl, rfl, rfl⟩
theorem goes_spec (ρ : Hp) (l : Nat) (hl : l < 4294967296) (a : Option Addr) (n c : Nat) (b : List UInt8) (hb : SIn ρ ZD a n b) (hbig : n ≤ 1000000) :
  Spec Tryz.prog 253 [.int .u32 l, .slice a n c] ρ [] (fun v ρ' L' => v = .int .u32 (goesN l b : Nat) ∧ ρ' = ρ ∧ L' = []) := by
 have hlen := hb.len
 refine Ze Tryz.func253 rfl rfl rfl fun u R => ?_
 simp only [Zt, List.cons_append, List.nil_append]
 repeat' (first | (refine Zc (.func 262) ?_; refine qC rfl rfl (halves_spec _) ?_; rintro v ρ' L' hle ⟨rfl, rfl, rfl⟩ <;> (try simp only [kM, kN, kO])) | (refine Zg ?_; first | (refine Zf ?_; refine qQ ?_) | refine Zj ?_ | refine qAn ?_ | refine qXo ?_ | refine qNt ?_) | refine Za ?_ | (refine Zh ?_; refine Zu ?_) | (refine Zi ?_; refine Zv ?_) | intro _)
 rename_i lb tb
 refine ZH [(2, _), (4, _), (6, _), (11, _), (12, _)] (fun (ζ : (Nat) × (Nat)) => [(13, .int .i64 ζ.1)]) (fun (ζ : (Nat) × (Nat)) => ρ') (fun (ζ : (Nat) × (Nat)) => [[(tb, .cells ⟨tabV⟩ 342 (0, 0))], [(lb, .cells ⟨[.int .u32 ζ.2]⟩ 192 (0, 0))]]) (fun (ζ : (Nat) × (Nat)) => ζ.1 ≤ n ∧ ζ.2 < 4294967296 ∧ ζ.2 = goesN l (b.take ζ.1)) (fun (ζ : (Nat) × (Nat)) => n - ζ.1) ((0, l)) (⟨Nat.zero_le _, hl, rfl⟩) Zo Zo rfl tk ?_
 rintro ⟨i, y⟩ hI
 try simp only [List.cons_append, List.nil_append, List.append_assoc, List.append_eq] at hI ⊢
 try dsimp only at hI ⊢
 obtain ⟨hi, hy, hgo⟩ := hI
 by_cases hlt : i < n
 ·obtain ⟨bx, off, C, T, fr, rfl, hb1, hc1⟩ := hb.get (show i < b.length by omega)
  have hnx : goesN l (b.take (i + 1)) = byt y (b[i]'(by omega)) := by
   rw [hgo]; unfold goesN; rw [List.take_succ_eq_append_getElem (by omega), List.foldl_append]; rfl
  generalize b[i]'(by omega) = ch at *
  have hcl := ch.toNat_lt
  have hq1 : ch.toNat &&& 15 < 256 := by have := and15 ch.toNat; omega
  have hsh : ((ch.toNat : Nat) : Int) / 2 ^ 4 = ((ch.toNat / 16 : Nat) : Int) := by omega
  have hh := hal_lt (n := ch.toNat &&& 15) hy
  have hand : andI ((ch.toNat : Nat) : Int) 15 = ((ch.toNat &&& 15 : Nat) : Int) := by simp [andI]
  repeat' (first | (refine Zg ?_; first | (refine Zf ?_; refine qQ ?_) | refine Zj ?_ | refine qAn ?_ | refine qXo ?_ | refine qNt ?_) | refine Za ?_ | (refine Zh ?_; refine Zu ?_) | (refine Zi ?_; refine Zv ?_) | intro _)
  simp only [hand]
  repeat' (first | (refine Zc (.tmp 17) ?_; refine qC rfl rfl (goes1_spec _ lb tb y (ch.toNat &&& 15) hy hq1) ?_; rintro v ρ' L' hle ⟨rfl, rfl, rfl⟩ <;> (try simp only [kM, kN, kO])) | (refine Zc (.tmp 21) ?_; refine qC rfl rfl (goes1_spec _ lb tb (hal y (ch.toNat &&& 15)) (ch.toNat / 16) hh (by omega)) ?_; rintro v ρ' L' hle ⟨rfl, rfl, rfl⟩ <;> (try simp only [kM, kN, kO])) | (refine Zg ?_; first | (refine Zf ?_; refine qQ ?_) | refine Zj ?_ | refine qAn ?_ | refine qXo ?_ | refine qNt ?_) | refine Za ?_ | (refine Zh ?_; refine Zu ?_) | (refine Zi ?_; refine Zv ?_) | intro _)
  refine Zx (i + 1, byt y ch) (⟨hlt, byt_lt hy, hnx.symm⟩) Zo Zo rfl tk inferInstance (by first | omega | (dsimp only; omega))
 ·have hin : i = n := by omega
  subst hin
  rw [List.take_of_length_le (by omega)] at hgo
  repeat' (first | (refine Zg ?_; first | (refine Zf ?_; refine qQ ?_) | refine Zj ?_ | refine qAn ?_ | refine qXo ?_ | refine qNt ?_) | refine Za ?_ | (refine Zh ?_; refine Zu ?_) | (refine Zi ?_; refine Zv ?_) | intro _)
  rw [hgo]
  exact qE (L' := []) ⟨rfl, rfl, rfl⟩
theorem sum32_spec (ρ : Hp) (a : Option Addr) (n c : Nat) (b : List UInt8) (hb : SIn ρ ZD a n b) (hbig : n ≤ 1000000) :
  Spec Tryz.prog 180 [.slice a n c] ρ [] (fun v ρ' L' => v = .int .u32 (sumB b : Nat) ∧ ρ' = ρ ∧ L' = []) := by
 have hj : Spec Tryz.prog 233 [.int .u32 0, .slice a n c] ρ [] (fun v ρ' L' => v = .int .u32 (sumB b : Nat) ∧ ρ' = ρ ∧ L' = []) := by
  have h1 : xorI 4294967295 0 = ((4294967295 : Nat) : Int) := by simp [xorI]
  have hg := goesN_lt b (l := 4294967295) (by decide)
  have hgs := goes_spec ρ 4294967295 (by decide) a n c b hb hbig
  have h2 : xorI 4294967295 ((goesN 4294967295 b : Nat) : Int) = ((sumB b : Nat) : Int) := by
   show (((4294967295 : Int).toNat ^^^ ((goesN 4294967295 b : Nat) : Int).toNat : Nat) : Int) = _
   rw [Int.toNat_natCast]; rfl
  generalize goesN 4294967295 b = g at *
  refine Ze Tryz.func233 rfl rfl rfl fun u R => ?_
  simp only [Zt, List.cons_append, List.nil_append]
  repeat' (first | (refine Zg ?_; first | (refine Zf ?_; refine qQ ?_) | refine Zj ?_ | refine qAn ?_ | refine qXo ?_ | refine qNt ?_) | refine Za ?_ | (refine Zh ?_; refine Zu ?_) | (refine Zi ?_; refine Zv ?_) | intro _)
  simp only [h1]
  repeat' (first | (refine Zc (.func 253) ?_; refine qC rfl rfl (hgs) ?_; rintro v ρ' L' hle ⟨rfl, rfl, rfl⟩ <;> (try simp only [kM, kN, kO])) | (refine Zg ?_; first | (refine Zf ?_; refine qQ ?_) | refine Zj ?_ | refine qAn ?_ | refine qXo ?_ | refine qNt ?_) | refine Za ?_ | (refine Zh ?_; refine Zu ?_) | (refine Zi ?_; refine Zv ?_) | intro _)
  rw [h2]
  exact qE (L' := []) ⟨rfl, rfl, rfl⟩
 refine Ze Tryz.func180 rfl rfl rfl fun u R => ?_
 simp only [Zt, List.cons_append, List.nil_append]
 repeat' (first | (refine Zc (.func 233) ?_; refine qC rfl rfl (hj) ?_; rintro v ρ' L' hle ⟨rfl, rfl, rfl⟩ <;> (try simp only [kM, kN, kO])) | (refine Zg ?_; first | (refine Zf ?_; refine qQ ?_) | refine Zj ?_ | refine qAn ?_ | refine qXo ?_ | refine qNt ?_) | refine Za ?_ | (refine Zh ?_; refine Zu ?_) | (refine Zi ?_; refine Zv ?_) | intro _)
 exact qE (L' := []) ⟨rfl, rfl, rfl⟩
structure SlD where
 stamp : Nat
 lsn : Nat
 c : Yb
 right : Bool
 most : Nat
def zSl : SlD := ⟨0, 0, ⟨0, [], []⟩, false, 0⟩
abbrev slV (s : SlD) (w : CV) : List Value := [.int .u64 s.stamp, .int .u64 s.lsn, .int .i64 s.c.kind, .slice w.ra w.rn w.rc, .slice w.ka w.kn w.kc, .bool s.right, .int .u64 s.most]
def dataB (c : Yb) : Bs := fitB 84 (UInt8.ofNat (YK c).length :: YK c)
theorem dataB_len (c : Yb) : (dataB c).length = 84 := fitB_len _ _
def bodyF (num st lsn : Nat) (c : Yb) (i : Nat) : Bs := UInt8.ofNat num :: UInt8.ofNat i :: (be 8 st ++ (be 8 lsn ++ ((dataB c).drop (42 * i)).take 42))
def ZP (num st lsn : Nat) (c : Yb) (i : Nat) : Blk := bodyF num st lsn c i ++ be 4 (sumB (bodyF num st lsn c i))
theorem bodyF_len (num st lsn : Nat) (c : Yb) {i : Nat} (hi : i < 2) : (bodyF num st lsn c i).length = 60 := by
 simp [bodyF, Zw, dataB_len]; omega
theorem Xl (num st lsn : Nat) (c : Yb) {i : Nat} (hi : i < 2) : (ZP num st lsn c i).length = 64 := by
 unfold ZP; rw [List.length_append, bodyF_len num st lsn c hi, Zw]
theorem fit_lay {n : Nat} {l : Bs} (h : l.length ≤ n) : fitB n l = l ++ z8 (n - l.length) := by
 unfold fitB z8
 rw [List.take_append, List.take_of_length_le h, List.take_replicate]
 congr 2; omega
theorem data_lay {l : Bs} (x : UInt8) (h : l.length ≤ 83) : stc (stc ((z8 84).map ZD) (0 + Int.toNat 0 * 1) [ZD x]) 1 ((l.map ZD).take 83) = (fitB 84 (x :: l)).map ZD := by
 have e1 : stc ((z8 84).map ZD) (0 + Int.toNat 0 * 1) [ZD x] = ZD x :: List.replicate 83 (ZD 0) := by simp [stc, z8]
 have e2 : ∀ m, List.drop (1 + m) (ZD x :: List.replicate 83 (ZD 0)) = List.replicate (83 - m) (ZD 0) := fun m => by rw [Nat.add_comm, List.drop_succ_cons, List.drop_replicate]
 rw [e1, fit_lay (by simp; omega), List.take_of_length_le (by simp; omega)]
 unfold stc
 rw [e2]
 simp [z8]
def outF (num st lsn : Nat) (c : Yb) (i : Nat) : Bs := (List.range i).flatMap (ZP num st lsn c) ++ z8 (128 - 64 * i)
theorem outF_one (num st lsn : Nat) (c : Yb) : outF num st lsn c 1 = ZP num st lsn c 0 ++ z8 64 := by simp [outF]
theorem outF_two (num st lsn : Nat) (c : Yb) : outF num st lsn c 2 = ZP num st lsn c 0 ++ ZP num st lsn c 1 := by
 rw [outF, show List.range 2 = [0, 1] from rfl]; simp [z8]
theorem outF_len (num st lsn : Nat) (c : Yb) {i : Nat} (hi : i ≤ 2) : (outF num st lsn c i).length = 128 := by
 rcases (show i = 0 ∨ i = 1 ∨ i = 2 by omega) with rfl | rfl | rfl
 ·simp [outF, z8]
 ·rw [outF_one, List.length_append, Xl _ _ _ _ (by omega)]; simp [z8]
 ·rw [outF_two, List.length_append, Xl _ _ _ _ (by omega), Xl _ _ _ _ (by omega)]
theorem outF_lay (num st lsn : Nat) (c : Yb) {i : Nat} (hi : i < 2) : stc ((outF num st lsn c i).map ZD) (0 + i * 64) (((ZP num st lsn c i).map ZD).take 64) = (outF num st lsn c (i + 1)).map ZD := by
 have hp := Xl num st lsn c hi
 rw [List.take_of_length_le (by simp; omega)]
 rcases (show i = 0 ∨ i = 1 by omega) with rfl | rfl
 ·rw [outF_one]
  simp only [outF, List.range_zero, List.flatMap_nil, List.nil_append, stc]
  simp [z8, hp]
 ·rw [outF_one, outF_two]
  have h0 := Xl num st lsn c (i := 0) (by omega)
  simp only [stc, List.map_append]
  rw [List.take_left' (by simp [h0]), List.drop_eq_nil_of_le (by simp [h0, hp, z8])]
  simp
theorem Va (ρ : Hp) (num : Nat) (hnum : num < 64) (s : SlD) (w : CV) (h : CIn ρ w s.c.rows s.c.kids) (hok : ZT s.c = true) (hir : ∀ r ∈ s.c.rows, r.id < 65536) (hik : ∀ k ∈ s.c.kids, k.id < 65536) (hst : s.stamp < 18446744073709551616) (hls : s.lsn < 18446744073709551616) :
  Spec Tryz.prog 121 [.int .i64 num, .agg ⟨slV s w⟩] ρ [] (fun v ρ' L' => v = .agg ⟨(ZP num s.stamp s.lsn s.c 0 ++ ZP num s.stamp s.lsn s.c 1).map ZD⟩ ∧ ρ.le ρ' ∧ L' = []) := by
 have hce := contE_spec ρ w s.c h hir hik
 rw [hok] at hce
 simp only [if_true] at hce
 refine Ze Tryz.func121 rfl rfl rfl fun u R => ?_
 simp only [Zt, List.cons_append, List.nil_append]
 repeat' (first | (refine Zc (.func 177) ?_; refine qC rfl rfl (hce) ?_; rintro v ρ' L' hle ⟨hl1, xa, xn, xc, rfl, hxc, hxs, rfl⟩ <;> (try simp only [kM, kN, kO])) | (refine Zg ?_; first | (refine Zf ?_; refine qQ ?_) | refine Zj ?_) | refine Za ?_ | (refine Zh ?_; refine Zu ?_) | (refine Zi ?_; refine Zv ?_) | intro _)
 have hxl := hxs.len
 have h82 := Vg hok
 have hlb := lenB (n := xn) (by omega)
 have hdl := data_lay (l := YK s.c) (UInt8.ofNat xn) (by omega)
 rename_i b3 b4
 repeat' (first | (refine tl_makeSlice rfl rfl (by omega) (by omega) (by omega) (by omega) rfl (fun hbn => ?_); simp only [Nat.mul_one, made_z8]) | (refine Zg ?_; first | (refine Zf ?_; refine qQ ?_) | refine Zj ?_) | refine Za ?_ | (refine Zh ?_; refine Zu ?_) | (refine Zi ?_; refine Zv ?_) | intro _)
 simp only [show (Int.toNat 84 = Int.toNat 1) = False from eq_false (by decide), if_false, Option.map_some, Xx, hlb]
 refine tl_copy (ys := (YK s.c).map ZD) rfl rfl (SIn.srcV hxs) (by simpa using hxl) (Yr _) (by simp [stc, z8]; omega) rfl ?_
 rw [show Int.toNat 84 - Int.toNat 1 = 83 from rfl, show 0 + Int.toNat 1 * 1 = 1 from rfl, show Int.toNat 84 = 84 from rfl, hdl, show fitB 84 (UInt8.ofNat xn :: YK s.c) = dataB s.c by rw [← hxl]; rfl]
 refine ZM [(hbn, .cells ⟨(dataB s.c).map ZD⟩ 5 (0, 0))] (h := Rem.here) (fun ρ2 hl2 hfz => ?_)
 have hdn := hfz _ (List.mem_singleton.2 rfl)
 have hdt := sIn_l hdn
 rw [dataB_len] at hdt
 repeat' (first | (refine Zg ?_; first | (refine Zf ?_; refine qQ ?_) | refine Zj ?_) | refine Za ?_ | (refine Zh ?_; refine Zu ?_) | (refine Zi ?_; refine Zv ?_) | intro _)
 refine ZH [(0, _), (3, _), (4, _), (7, _)] (fun (ζ : (Nat) × (Hp)) => [(26, .int .i64 ζ.1)]) (fun (ζ : (Nat) × (Hp)) => ζ.2) (fun (ζ : (Nat) × (Hp)) => [[(b4, .cells ⟨(outF num s.stamp s.lsn s.c ζ.1).map ZD⟩ 179 (0, 0))], [(b3, .cells ⟨slV s w⟩ 151 (0, 0))]]) (fun (ζ : (Nat) × (Hp)) => ζ.1 ≤ 2 ∧ ρ2.le ζ.2) (fun (ζ : (Nat) × (Hp)) => 2 - ζ.1) ((0, ρ2)) (⟨Nat.zero_le _, Hp.le_refl _⟩) Zo Zo rfl tk ?_
 rintro ⟨i, ρ3⟩ hI
 try simp only [List.cons_append, List.nil_append, List.append_assoc, List.append_eq] at hI ⊢
 try dsimp only at hI ⊢
 obtain ⟨hi, hl3⟩ := hI
 by_cases hlt : i < 2
 ·have hsub := (hdt.mono hl3).sub (lo' := i * 42) (hi' := (i + 1) * 42) (by omega) (by omega) (cap := 84) (by omega)
  have hbn8 := lenB (n := num) (by omega)
  have hbi8 := lenB (n := i) (by omega)
  have hbl := bodyF_len num s.stamp s.lsn s.c hlt
  have hpl := Xl num s.stamp s.lsn s.c hlt
  have hol := outF_lay num s.stamp s.lsn s.c hlt
  have hoL := outF_len num s.stamp s.lsn s.c hi
  repeat' (first | (refine Zg ?_; first | (refine Zf ?_; refine qQ ?_) | refine Zj ?_) | refine Za ?_ | (refine Zh ?_; refine Zu ?_) | (refine Zi ?_; refine Zv ?_) | intro _)
  refine Zz (Zr _ _ ([[(b3, .cells ⟨slV s w⟩ 151 (0, 0))]])) (Zy (hT := tk) (Hp.le_refl _)) ?_
  all_goals (refine ZO 0 ?_; refine rCv 1 ?_; refine ZO 2 ?_; refine rCv 3 ?_; refine Yv 5 ?_; refine ZX 6 ?_; refine Yv 8 ?_; refine ZX 9 ?_)
  all_goals (refine Zm (i := 4) ?_; ((try refine Zk ?_); (first | (simp only [hbn8, hbi8]; refine ZC rfl rfl rfl rfl (by simp) rfl rfl (fun hb8 => ?_); refine ZM [(hb8, .cells ⟨[UInt8.ofNat num, UInt8.ofNat i].map ZD⟩ 5 (0, 0))] (h := Rem.here) (fun ρ4 hl4 hfz4 => ?_); have hs4 := sIn_l (hfz4 _ (List.mem_singleton.2 rfl))) | (refine Zj ?_; try intro _)) <;> ((try simp only [kM, kN, kO]); refine Za ?_; refine Zl ?_)))
  all_goals (refine Zm (i := 7) ?_; ((try refine Zk ?_); (first | (refine Zc (.func 178) ?_; refine qC rfl rfl (put64_spec _ _ _ _ _ hs4 s.stamp hst (by simp)) ?_; rintro v5 ρ5 L5 hle5 ⟨rfl, sp5, hown5, rfl⟩; simp only [List.cons_append, List.nil_append]; refine ZM _ (h := Rem.here) (fun ρ6 hl6 hfz6 => ?_); obtain ⟨a6, c6, rfl, hc6, hs6⟩ := hown5.sIn hfz6) | (refine Zc (.func 178) ?_; refine qC rfl rfl (put64_spec _ _ _ _ _ hs6 s.lsn hls (by simp)) ?_; rintro v7 ρ7 L7 hle7 ⟨rfl, sp7, hown7, rfl⟩; simp only [List.cons_append, List.nil_append]) | (refine Zj ?_; try intro _)) <;> ((try simp only [kM, kN, kO]); refine Za ?_; refine Zl ?_)))
  all_goals (refine Zm (i := 10) ?_; ((try refine Zk ?_); (first | (refine Zc (.func 178) ?_; refine qC rfl rfl (put64_spec _ _ _ _ _ hs4 s.stamp hst (by simp)) ?_; rintro v5 ρ5 L5 hle5 ⟨rfl, sp5, hown5, rfl⟩; simp only [List.cons_append, List.nil_append]; refine ZM _ (h := Rem.here) (fun ρ6 hl6 hfz6 => ?_); obtain ⟨a6, c6, rfl, hc6, hs6⟩ := hown5.sIn hfz6) | (refine Zc (.func 178) ?_; refine qC rfl rfl (put64_spec _ _ _ _ _ hs6 s.lsn hls (by simp)) ?_; rintro v7 ρ7 L7 hle7 ⟨rfl, sp7, hown7, rfl⟩; simp only [List.cons_append, List.nil_append]) | (refine Zj ?_; try intro _)) <;> ((try simp only [kM, kN, kO]); refine Za ?_; refine Zl ?_)))
  all_goals (refine ZN ?_; refine rAs 11 ?_; refine ZI ?_)
  have hown7' : OwnS v7 18 ((UInt8.ofNat num :: UInt8.ofNat i :: (be 8 s.stamp ++ be 8 s.lsn)).map ZD) sp7 1 := hown7
  have h60 : 18 + ((i + 1) * 42 - i * 42) = 60 := by omega
  have hq1 : ((i : Int) * 42).toNat = i * 42 := by omega
  have hq2 : (((i : Int) + 1) * 42).toNat = (i + 1) * 42 := by omega
  have hbody : (UInt8.ofNat num :: UInt8.ofNat i :: (be 8 s.stamp ++ be 8 s.lsn)).map ZD ++ (((dataB s.c).drop (i * 42)).take ((i + 1) * 42 - i * 42)).map ZD = (bodyF num s.stamp s.lsn s.c i).map ZD := by
   rw [show (i + 1) * 42 - i * 42 = 42 by omega, Nat.mul_comm i 42, ← List.map_append]
   congr 1
  have hl37 : ρ3.le ρ7 := Hp.le_trans hl4 hl6
  repeat' (first | (simp only [hq1, hq2]; refine YQ (m := (i + 1) * 42 - i * 42) (sz := 1) rfl rfl hown7' (hR := by infer_instance) (SIn.srcV (hsub.mono hl37)) (by simp [dataB_len]; omega) (Yr _) (by decide) rfl (by omega) (by omega) rfl (fun v8 sp8 hown8 => ?_); rw [hbody] at hown8 ⊢; refine ZM (Ym v8 ((bodyF num s.stamp s.lsn s.c i).map ZD) sp8 5) (h := by infer_instance) (fun ρ8 hl8 hfz8 => ?_); obtain ⟨a8, c8, rfl, hc8, hs8⟩ := hown8.sIn hfz8; simp only [h60] at hs8 hc8 hown8 ⊢) | (refine Zg ?_; first | (refine Zf ?_; refine qQ ?_) | refine Zj ?_) | refine Za ?_ | (refine Zh ?_; refine Zu ?_) | (refine Zi ?_; refine Zv ?_) | intro _)
  refine Zz (Zr _ _ ([])) (Zy (hT := tk) (Hp.le_refl _)) ?_
  all_goals (refine ZO 0 ?_; refine rIa 1 ?_; refine rSl 2 ?_; refine ZO 3 ?_; refine ZO 4 ?_)
  all_goals (refine Zm (i := 5) ?_; ((try refine Zk ?_); (first | (refine Zc (.func 180) ?_; refine qC rfl rfl (sum32_spec _ a8 60 c8 _ hs8 (by omega)) ?_; rintro v ρ' L' hle ⟨rfl, rfl, rfl⟩ <;> (try simp only [kM, kN, kO])) | (refine Zj ?_; try intro _)) <;> ((try simp only [kM, kN, kO]); refine Za ?_; refine Zl ?_)))
  all_goals (refine Zm (i := 6) ?_; ((try refine Zk ?_); (first | (refine Zc (.func 179) ?_; refine qC rfl rfl (put32_spec _ a8 60 c8 _ hs8 (sumB (bodyF num s.stamp s.lsn s.c i)) (sumB_lt _) (by omega)) ?_; rintro v9 ρ9 L9 hle9 ⟨rfl, sp9, hown9, rfl⟩; simp only [List.cons_append, List.nil_append]; refine ZM _ (h := Rem.here) (fun ρ10 hl10 hfz10 => ?_); obtain ⟨a10, c10, rfl, hc10, hs10⟩ := hown9.sIn hfz10) | (refine Zj ?_; try intro _)) <;> ((try simp only [kM, kN, kO]); refine Za ?_; refine Zl ?_)))
  all_goals (refine Zm (i := 7) ?_; ((try refine Zk ?_); (first | ((try simp only [Int.toNat_natCast]); refine tl_copy (ys := (ZP num s.stamp s.lsn s.c i).map ZD) rfl rfl (SIn.srcV hs10) (by simp [hpl]) (Yr _) (by simp [hoL]; omega) rfl ?_; simp only [hol]) | (refine Zj ?_; try intro _)) <;> ((try simp only [kM, kN, kO]); refine Za ?_; refine Zl ?_)))
  all_goals refine ZI ?_
  all_goals (repeat' (first | (refine Zg ?_; first | (refine Zf ?_; refine qQ ?_) | refine Zj ?_) | refine Za ?_ | (refine Zh ?_; refine Zu ?_) | (refine Zi ?_; refine Zv ?_) | intro _))
  all_goals refine Zx (i + 1, _) (⟨hlt, Hp.le_trans hl3 (Hp.le_trans hl37 (Hp.le_trans hl8 hl10))⟩) Zo Zo rfl tk inferInstance (by first | omega | (dsimp only; omega))
 ·have h2 : i = 2 := by omega
  subst h2
  have hL2 : ((outF num s.stamp s.lsn s.c 2).map ZD).length = 128 := by rw [List.length_map]; exact outF_len _ _ _ _ (by omega)
  rw [outF_two] at hL2 ⊢
  have hL1 := Yr (ZP num s.stamp s.lsn s.c 0 ++ ZP num s.stamp s.lsn s.c 1)
  repeat' (first | (refine Zg ?_; first | (refine Zf ?_; refine qQ ?_) | refine Zj ?_) | refine Za ?_ | (refine Zh ?_; refine Zu ?_) | (refine Zi ?_; refine Zv ?_) | intro _)
  have hfin := Hp.le_trans hl1 (Hp.le_trans hl2 hl3)
  exact qE (L' := []) ⟨rfl, hfin, rfl⟩
def YA (num : Nat) (a b : Blk) : SlD :=
 if 83 < (a.getD 18 0).toNat then zSl
 else
  ⟨Yx ((a.drop 2).take 8), Yx ((a.drop 10).take 8), (Yj ((((a.drop 18).take 42 ++ (b.drop 18).take 42).drop 1).take (a.getD 18 0).toNat)).1,
   decide ((Yj ((((a.drop 18).take 42 ++ (b.drop 18).take 42).drop 1).take (a.getD 18 0).toNat)).2.2 = 0 ∧ (Yj ((((a.drop 18).take 42 ++ (b.drop 18).take 42).drop 1).take (a.getD 18 0).toNat)).2.1 = (a.getD 18 0).toNat ∧ 0 < Yx ((a.drop 2).take 8) ∧
    ZP num (Yx ((a.drop 2).take 8)) (Yx ((a.drop 10).take 8)) (Yj ((((a.drop 18).take 42 ++ (b.drop 18).take 42).drop 1).take (a.getD 18 0).toNat)).1 0 ++ ZP num (Yx ((a.drop 2).take 8)) (Yx ((a.drop 10).take 8)) (Yj ((((a.drop 18).take 42 ++ (b.drop 18).take 42).drop 1).take (a.getD 18 0).toNat)).1 1 = a ++ b), 0⟩
theorem unbe_take8 (l : Bs) : Yx (l.take 8) < 18446744073709551616 := by
 have := unbe_lt (l.take 8)
 have h8 : (l.take 8).length ≤ 8 := by simp; omega
 have : 256 ^ (l.take 8).length ≤ 256 ^ 8 := Nat.pow_le_pow_right (by decide) h8
 omega
theorem u64_ok (ρ : Hp) (br : Nat) (a : Option Addr) (n c : Nat) (l : Bs) (h : SIn ρ ZD a n l) (hc : n ≤ c) (h8 : 8 ≤ n) :
  Spec Tryz.prog 98 [.pointer (some ⟨br, 0, none⟩)] ρ [rdC br a n c 0]
   (fun v ρ' L' => v = .int .u64 (Yx (l.take 8) : Nat) ∧ ρ' = ρ ∧ ∃ a' c', SIn ρ ZD a' (n - 8) (l.drop 8) ∧ n - 8 ≤ c' ∧ L' = [rdC br a' (n - 8) c' 0]) := by
 have hl := h.len
 have e : YF 8 l 0 = (Yx (l.take 8), l.drop 8, 0) := by unfold YF; rw [if_neg (by simp), if_neg (by omega)]
 refine (u64_spec ρ br a n c l h hc 0).mono ?_
 rintro v ρ' L' _ ⟨h1, h2, a', n', c', h3, h4, h5⟩
 rw [e] at h1 h3 h5
 have hn : n' = n - 8 := by have := h3.len; simp at this; omega
 subst hn
 exact ⟨h1, h2, a', c', h3, h4, h5⟩
theorem u32_ok (ρ : Hp) (br : Nat) (a : Option Addr) (n c : Nat) (l : Bs) (h : SIn ρ ZD a n l) (hc : n ≤ c) (h4 : 4 ≤ n) :
  Spec Tryz.prog 99 [.pointer (some ⟨br, 0, none⟩)] ρ [rdC br a n c 0] (fun v ρ' L' => v = .int .u32 (Yx (l.take 4) : Nat) ∧ ρ' = ρ ∧ ∃ a' n' c', L' = [rdC br a' n' c' 0]) := by
 have hl := h.len
 have e : YF 4 l 0 = (Yx (l.take 4), l.drop 4, 0) := by unfold YF; rw [if_neg (by simp), if_neg (by omega)]
 have hn := number_spec ρ br a n c l h hc 0 4 (by omega)
 rw [e] at hn
 have hlt := unbe_lt (l.take 4)
 rw [show (l.take 4).length = 4 by simp; omega] at hlt
 dsimp only at hn
 generalize Yx (l.take 4) = x at *
 refine Ze Tryz.func99 rfl rfl rfl fun u R => ?_
 simp only [Zt, List.cons_append, List.nil_append]
 repeat' (first | (refine Zc (.func 143) ?_; refine qC rfl rfl (hn) ?_; rintro v ρ' L' hle ⟨rfl, rfl, a', n', c', hs', hc', rfl⟩ <;> (try simp only [kM, kN, kO])) | (refine Zg ?_; first | (refine Zf ?_; refine qQ ?_) | refine Zj ?_ | refine qAn ?_ | refine qXo ?_ | refine qNt ?_) | refine Za ?_ | (refine Zh ?_; refine Zu ?_) | (refine Zi ?_; refine Zv ?_) | intro _)
 exact qE ⟨rfl, rfl, a', n', c', rfl⟩
theorem says_spec (ρ : Hp) (num : Nat) (hnum : num < 64) (a b : Blk) (ha : a.length = 64) (hb : b.length = 64) :
  Spec Tryz.prog 182 [.int .i64 num, .agg ⟨(a ++ b).map ZD⟩] ρ [] (fun v ρ' L' => ρ.le ρ' ∧ ∃ w, v = .agg ⟨slV (YA num a b) w⟩ ∧ CIn ρ' w (YA num a b).c.rows (YA num a b).c.kids ∧ L' = []) := by
 have hab : ((a ++ b).map ZD).length = 128 := by simp [ha, hb]
 have hone := Yr (a ++ b)
 have e8 : ((a ++ b).drop 2).take 16 = (a.drop 2).take 16 := by rw [List.drop_append_of_le_length (by omega), List.take_append_of_le_length (by simp; omega)]
 refine Ze Tryz.func182 rfl rfl rfl fun u R => ?_
 simp only [Zt, List.cons_append, List.nil_append]
 repeat' (first | (refine Zg ?_; first | (refine Zf ?_; refine qQ ?_) | refine Zj ?_ | refine qAn ?_ | refine qXo ?_ | refine qNt ?_) | refine Za ?_ | (refine Zh ?_; refine Zu ?_) | (refine Zi ?_; refine Zv ?_) | intro _)
 rename_i b3 b4
 refine ZM [(b3, .cells ⟨(a ++ b).map ZD⟩ 179 (0, 0))] (h := by infer_instance) (fun ρ1 hl1 hfz => ?_)
 have hbs := hfz _ (List.mem_singleton.2 rfl)
 have hs16 := sIn_part hbs 2 16 (by simp; omega)
 rw [e8] at hs16
 simp only [show 0 + Int.toNat 0 * 64 + Int.toNat 2 * 1 = 2 from rfl, show Int.toNat 18 - Int.toNat 2 = 16 from rfl]
 repeat' (first | (refine Zc (.func 96) ?_; refine qC rfl rfl (read_spec _ _ 16 _ _ hs16 (by omega)) ?_; rintro v2 ρ2 L2 hle2 ⟨hl2, br, ra, rc, rfl, hrc, hrs, rfl⟩; simp only [List.cons_append, List.nil_append]) | (refine Zg ?_; first | (refine Zf ?_; refine qQ ?_) | refine Zj ?_ | refine qAn ?_ | refine qXo ?_ | refine qNt ?_) | refine Za ?_ | (refine Zh ?_; refine Zu ?_) | (refine Zi ?_; refine Zv ?_) | intro _)
 repeat' (first | (refine Zc (.func 98) ?_; refine qC rfl rfl (u64_ok _ br ra 16 rc _ hrs hrc (by omega)) ?_; rintro v3 ρ3 L3 hle3 ⟨rfl, rfl, ra3, rc3, hrs3, hrc3, rfl⟩; simp only [List.cons_append, List.nil_append]) | (refine Zg ?_; first | (refine Zf ?_; refine qQ ?_) | refine Zj ?_ | refine qAn ?_ | refine qXo ?_ | refine qNt ?_) | refine Za ?_ | (refine Zh ?_; refine Zu ?_) | (refine Zi ?_; refine Zv ?_) | intro _)
 repeat' (first | (refine Zc (.func 98) ?_; refine qC rfl rfl (u64_ok _ br ra3 8 rc3 _ hrs3 hrc3 (by omega)) ?_; rintro v4 ρ4 L4 hle4 ⟨rfl, rfl, ra4, rc4, hrs4, hrc4, rfl⟩; simp only [List.cons_append, List.nil_append]) | (refine Zg ?_; first | (refine Zf ?_; refine qQ ?_) | refine Zj ?_ | refine qAn ?_ | refine qXo ?_ | refine qNt ?_) | refine Za ?_ | (refine Zh ?_; refine Zu ?_) | (refine Zi ?_; refine Zv ?_) | intro _)
 rename_i b6
 have hd0 : (a ++ b).getD 18 0 = a.getD 18 0 := by simp [List.getD_eq_getElem?_getD, List.getElem?_append_left (show 18 < a.length by omega)]
 have hx1 : Yx (((a.drop 2).take 16).take 8) = Yx ((a.drop 2).take 8) := by rw [List.take_take]; rfl
 have hx2 : Yx ((((a.drop 2).take 16).drop 8).take 8) = Yx ((a.drop 10).take 8) := by rw [List.drop_take, List.take_take, List.drop_drop]; rfl
 simp only [hx1, hx2]
 have hb4 := Hp.at' hl2 hbs
 dsimp only at hb4
 have hld : List.take 128 (List.drop 0 ((a ++ b).map ZD)) = (a ++ b).map ZD := by rw [List.drop_zero, List.take_of_length_le (by omega)]
 obtain ⟨dat, hdat⟩ : ∃ dat, dat = (a.drop 18).take 42 ++ (b.drop 18).take 42 := ⟨_, rfl⟩
 have hdl : dat.length = 84 := by rw [hdat]; simp; omega
 repeat' (first | (refine Zg ?_; first | (refine Zf ?_; refine qQ ?_) | refine Zj ?_ | refine qAn ?_ | refine qXo ?_ | refine qNt ?_) | refine Za ?_ | (refine Zh ?_; refine Zu ?_) | (refine Zi ?_; refine Zv ?_) | intro _)
 refine ZH [(0, _), (3, _), (4, _), (6, _), (22, _)] (fun (ζ : (Nat) × (Hp) × (Value) × (List Value)) => [(23, .int .i64 ζ.1), (7, ζ.2.2.1)]) (fun (ζ : (Nat) × (Hp) × (Value) × (List Value)) => ζ.2.1) (fun (ζ : (Nat) × (Hp) × (Value) × (List Value)) => [Ym ζ.2.2.1 ((dat.take (42 * ζ.1)).map ZD) ζ.2.2.2 5]) (fun (ζ : (Nat) × (Hp) × (Value) × (List Value)) => ζ.1 ≤ 2 ∧ ρ4.le ζ.2.1 ∧ OwnS ζ.2.2.1 (42 * ζ.1) ((dat.take (42 * ζ.1)).map ZD) ζ.2.2.2 1) (fun (ζ : (Nat) × (Hp) × (Value) × (List Value)) => 2 - ζ.1) ((0, ρ4, .slice none 0 0, [])) (⟨Nat.zero_le _, Hp.le_refl _, OwnS.nil 1⟩) Zo Zo rfl tk ?_
 rintro ⟨i, ρ5, v, sp⟩ hI
 try simp only [List.cons_append, List.nil_append, List.append_assoc, List.append_eq] at hI ⊢
 try dsimp only at hI ⊢
 obtain ⟨hi, hl5, hown⟩ := hI
 by_cases hlt : i < 2
 ·obtain ⟨blk, hbl, hix, hnx⟩ : ∃ blk : Blk, blk.length = 64 ∧ (((a ++ b).map ZD).drop (i * 64)).take 64 = blk.map ZD ∧ ((dat.take (42 * i)).map ZD ++ ((blk.drop 18).take 42).map ZD) = (dat.take (42 * (i + 1))).map ZD := by
   have hla : ((a.drop 18).take 42).length = 42 := by simp; omega
   have hlb : ((b.drop 18).take 42).length = 42 := by simp; omega
   rcases (show i = 0 ∨ i = 1 by omega) with rfl | rfl
   ·refine ⟨a, ha, ?_, ?_⟩
    ·rw [List.map_append, Nat.zero_mul, List.drop_zero, List.take_left' (by simpa using ha)]
    ·rw [hdat]
     simp only [Nat.mul_zero, List.take_zero, List.map_nil, List.nil_append]
     rw [List.take_left' hla]
   ·refine ⟨b, hb, ?_, ?_⟩
    ·rw [List.map_append, Nat.one_mul, List.drop_left' (by simpa using ha), List.take_of_length_le (by simp; omega)]
    ·rw [List.take_of_length_le (show dat.length ≤ 42 * (1 + 1) by omega), hdat, List.take_left' (by omega), List.map_append]
  have hb64 : (blk.map ZD).length = 64 := by simpa using hbl
  have hbo := Yr blk
  have hsub : ((blk.map ZD).drop 18).take 42 = ((blk.drop 18).take 42).map ZD := by rw [List.map_take, List.map_drop]
  have hsl : (((blk.drop 18).take 42).map ZD).length = 42 := by simp; omega
  repeat' (first | (refine ZL (y_index_a rfl rfl hlt hix) rfl rfl ?_) | (simp only [show Int.toNat 60 - Int.toNat 18 = 42 from rfl, show 0 + Int.toNat 18 * 1 = 18 from rfl]; refine YQ (ys := ((blk.drop 18).take 42).map ZD) (m := 42) (sz := 1) rfl rfl hown (hR := by infer_instance) (SrcV.find hsub) hsl (Yr _) (by decide) rfl (by omega) (by omega) rfl (fun v7 sp7 hown7 => ?_); rw [hnx] at hown7 ⊢) | (refine Zg ?_; first | (refine Zf ?_; refine qQ ?_) | refine Zj ?_ | refine qAn ?_ | refine qXo ?_ | refine qNt ?_) | refine Za ?_ | (refine Zh ?_; refine Zu ?_) | (refine Zi ?_; refine Zv ?_) | intro _)
  refine Zx (i + 1, ρ5, v7, sp7) (⟨hlt, hl5, hown7⟩) Zo Zo rfl tk inferInstance (by first | omega | (dsimp only; omega))
 ·have h2 : i = 2 := by omega
  subst h2
  rw [List.take_of_length_le (show dat.length ≤ 42 * 2 by omega)] at hown ⊢
  repeat' (first | (refine Zg ?_; first | (refine Zf ?_; refine qQ ?_) | refine Zj ?_ | refine qAn ?_ | refine qXo ?_ | refine qNt ?_) | refine Za ?_ | (refine Zh ?_; refine Zu ?_) | (refine Zi ?_; refine Zv ?_) | intro _)
  refine ZM (Ym v (dat.map ZD) sp 5) (h := by infer_instance) (fun ρ6 hl6 hfz6 => ?_)
  obtain ⟨a7, c7, rfl, hc7, hs7⟩ := hown.sIn hfz6
  obtain ⟨bx, ox, Cx', Tx, frx, rfl, hbx, hcx⟩ := hs7.get (i := 0) (by omega)
  have hda : dat[0]'(by omega) = a.getD 18 0 := by
   simp only [hdat]
   rw [List.getElem_append_left (by simp; omega), List.getElem_take, List.getElem_drop]
   rw [List.getD_eq_getElem?_getD, List.getElem?_eq_getElem (by omega)]; rfl
  rw [hda] at hcx
  have hdlt := (a.getD 18 0).toNat_lt
  have hsF : YA num a b = if 83 < (a.getD 18 0).toNat then zSl else
   ⟨Yx ((a.drop 2).take 8), Yx ((a.drop 10).take 8), (Yj ((dat.drop 1).take (a.getD 18 0).toNat)).1,
   decide ((Yj ((dat.drop 1).take (a.getD 18 0).toNat)).2.2 = 0 ∧ (Yj ((dat.drop 1).take (a.getD 18 0).toNat)).2.1 = (a.getD 18 0).toNat ∧ 0 < Yx ((a.drop 2).take 8) ∧
    ZP num (Yx ((a.drop 2).take 8)) (Yx ((a.drop 10).take 8)) (Yj ((dat.drop 1).take (a.getD 18 0).toNat)).1 0 ++ ZP num (Yx ((a.drop 2).take 8)) (Yx ((a.drop 10).take 8)) (Yj ((dat.drop 1).take (a.getD 18 0).toNat)).1 1 = a ++ b), 0⟩ := by
   rw [hdat]; rfl
  have hst8 := unbe_take8 (a.drop 2)
  have hls8 := unbe_take8 (a.drop 10)
  generalize YA num a b = S at *
  generalize Yx ((a.drop 2).take 8) = st at *
  generalize Yx ((a.drop 10).take 8) = ls at *
  generalize a.getD 18 0 = d8 at *
  have hcx2 : Cx'[ox + Int.toNat 0 * 1]? = some (ZD d8) := hcx
  have hl46 : ρ.le ρ6 := Hp.le_trans hl1 (Hp.le_trans hl2 (Hp.le_trans hl5 hl6))
  by_cases hbig : 83 < d8.toNat
  ·rw [if_pos hbig] at hsF
   subst hsF
   repeat' (first | (refine Zg ?_; first | (refine Zf ?_; refine qQ ?_) | refine Zj ?_ | refine qAn ?_ | refine qXo ?_ | refine qNt ?_) | refine Za ?_ | (refine Zh ?_; refine Zu ?_) | (refine Zi ?_; refine Zv ?_) | intro _)
   exact qE (L' := []) ⟨hl46, ⟨none, 0, 0, none, 0, 0⟩, rfl, CIn.nil, rfl⟩
  ·rw [if_neg hbig] at hsF
   have hsub := hs7.sub (lo' := 1) (hi' := 1 + d8.toNat) (by omega) (by omega) (cap := c7) (by omega)
   rw [show 1 + d8.toNat - 1 = d8.toNat by omega] at hsub
   have htc := takeCont_spec _ _ d8.toNat (c7 - 1) _ hsub (by omega)
   have hok := @takeCont_ok ((dat.drop 1).take d8.toNat)
   generalize Yj ((dat.drop 1).take d8.toNat) = r at *
   obtain ⟨cc, kk, ec⟩ := r
   dsimp only at hsF htc hok
   have hq1 : ((1 : Int) + (d8.toNat : Int)).toNat - Int.toNat 1 = d8.toNat := by omega
   repeat' (first | (simp only [hq1]; refine Zc (.func 147) ?_; refine qC rfl rfl htc ?_; rintro v8 ρ8 L8 hle8 ⟨hl8, w, rfl, hC, rfl⟩; simp only [List.cons_append, List.nil_append]) | (refine Zg ?_; first | (refine Zf ?_; refine qQ ?_) | refine Zj ?_ | refine qAn ?_ | refine qXo ?_ | refine qNt ?_) | refine Za ?_ | (refine Zh ?_; refine Zu ?_) | (refine Zi ?_; refine Zv ?_) | intro _)
   have hb8 := Hp.at' (Hp.le_trans hl2 (Hp.le_trans hl5 (Hp.le_trans hl6 hl8))) hbs
   dsimp only at hb8
   have hl48 := Hp.le_trans hl46 hl8
   by_cases h1 : ec = 0
   ·obtain ⟨n1, rfl, _, hco, _, hcf⟩ := hok h1
    have hir : ∀ r ∈ cc.rows, r.id < 65536 := fun r hr => (hcf.row r hr).id
    have hik : ∀ k ∈ cc.kids, k.id < 65536 := fun k hk => (hcf.kid k hk).id
    by_cases h2 : (n1 : Int) = d8.toNat
    ·by_cases h3 : 0 < st
     ·have hEq : EqC Tryz.prog 8 179 (.agg ⟨(ZP num st ls cc 0 ++ ZP num st ls cc 1).map ZD⟩) (.agg ⟨(a ++ b).map ZD⟩) (decide (ZP num st ls cc 0 ++ ZP num st ls cc 1 = a ++ b)) := eqC_two (m := 5) _ _ _ _ (Xl _ _ _ _ (by omega)) (Xl _ _ _ _ (by omega)) ha hb
      have h3' : (0 : Int) < ((st : Nat) : Int) := by omega
      by_cases h4 : ZP num st ls cc 0 ++ ZP num st ls cc 1 = a ++ b
      ·rw [decide_eq_true h4] at hEq
       refine Zz (Zr _ _ ([])) (Zy (hT := tk) (Hp.le_refl _)) ?_
       all_goals (refine ZO 0 ?_; refine rCm 1 ?_; refine ZO 2 ?_; (first | refine Zd 3 ?_ | refine Zb 3 ?_ | refine Yk 3 ?_); (first | refine Zd 4 ?_ | refine Zb 4 ?_ | refine Yk 4 ?_); (first | refine Zd 5 ?_ | refine Zb 5 ?_ | refine wSb 5 ?_); (first | refine Zd 6 ?_ | refine Zb 6 ?_ | refine wCm 6 ?_); refine rPk 7 ?_; refine ZO 8 ?_; (first | refine Zd 9 ?_ | refine Zb 9 ?_ | refine wFa 9 ?_))
       all_goals (first | refine Zd 10 ?_ | refine Zb 10 ?_ | (refine Zm (i := 10) ?_; ((try refine Zk ?_); (first | (refine Zc (.func 121) ?_; refine qC rfl rfl (Va _ num hnum ⟨st, ls, cc, false, 0⟩ w hC hco hir hik hst8 hls8) ?_; rintro v9 ρ9 L9 hle9 ⟨rfl, hl9, rfl⟩; simp only [List.cons_append, List.nil_append]) | (refine Zf ?_; refine qQ ?_) | (refine Zj ?_; try intro _)) <;> ((try simp only [kM, kN, kO]); refine Za ?_; refine Zl ?_))))
       all_goals ((first | refine Zd 11 ?_ | refine Zb 11 ?_ | refine wCm 11 ?_); refine rPk 12 ?_; refine ZO 13 ?_; (first | refine Zd 14 ?_ | refine Zb 14 ?_ | refine Yk 14 ?_); (first | refine Zd 17 ?_ | refine Zb 17 ?_ | refine wLd 17 ?_))
       all_goals (first | refine Zd 15 ?_ | refine Zb 15 ?_ | (refine Zm (i := 15) ?_; ((try refine Zk ?_); (first | (refine Zc (.func 121) ?_; refine qC rfl rfl (Va _ num hnum ⟨st, ls, cc, false, 0⟩ w hC hco hir hik hst8 hls8) ?_; rintro v9 ρ9 L9 hle9 ⟨rfl, hl9, rfl⟩; simp only [List.cons_append, List.nil_append]) | (refine Zf ?_; refine qQ ?_) | (refine Zj ?_; try intro _)) <;> ((try simp only [kM, kN, kO]); refine Za ?_; refine Zl ?_))))
       all_goals (first | refine Zd 16 ?_ | refine Zb 16 ?_ | (refine Zm (i := 16) ?_; ((try refine Zk ?_); (first | (refine Zc (.func 121) ?_; refine qC rfl rfl (Va _ num hnum ⟨st, ls, cc, false, 0⟩ w hC hco hir hik hst8 hls8) ?_; rintro v9 ρ9 L9 hle9 ⟨rfl, hl9, rfl⟩; simp only [List.cons_append, List.nil_append]) | (refine Zf ?_; refine qQ ?_) | (refine Zj ?_; try intro _)) <;> ((try simp only [kM, kN, kO]); refine Za ?_; refine Zl ?_))))
       all_goals ((first | refine Zd 18 ?_ | refine Zb 18 ?_ | refine wCm 18 ?_); refine rPk 19 ?_; refine Yv 20 ?_)
       all_goals (refine Zm (i := 21) ?_; ((try refine Zk ?_); (first | (refine Zf ?_; refine qQ ?_) | (refine Zj ?_; try intro _)) <;> ((try simp only [kM, kN, kO]); refine Za ?_; refine Zl ?_)))
       all_goals refine ZI ?_
       all_goals (repeat' (first | (refine Zg ?_; first | (refine Zf ?_; refine qQ ?_) | refine Zj ?_ | refine qAn ?_ | refine qXo ?_ | refine qNt ?_) | refine Za ?_ | (refine Zh ?_; refine Zu ?_) | (refine Zi ?_; refine Zv ?_) | intro _))
       all_goals have hv : S = ⟨st, ls, cc, true, 0⟩ := by rw [hsF]; congr 1; exact decide_eq_true ⟨h1, h2, h3, h4⟩
       all_goals subst hv
       all_goals have hfin := Hp.le_trans hl48 hl9
       all_goals exact qE (L' := []) ⟨hfin, w, rfl, hC.mono hl9, rfl⟩
      ·rw [decide_eq_false h4] at hEq
       refine Zz (Zr _ _ ([])) (Zy (hT := tk) (Hp.le_refl _)) ?_
       all_goals (refine ZO 0 ?_; refine rCm 1 ?_; refine ZO 2 ?_; (first | refine Zd 3 ?_ | refine Zb 3 ?_ | refine Yk 3 ?_); (first | refine Zd 4 ?_ | refine Zb 4 ?_ | refine Yk 4 ?_); (first | refine Zd 5 ?_ | refine Zb 5 ?_ | refine wSb 5 ?_); (first | refine Zd 6 ?_ | refine Zb 6 ?_ | refine wCm 6 ?_); refine rPk 7 ?_; refine ZO 8 ?_; (first | refine Zd 9 ?_ | refine Zb 9 ?_ | refine wFa 9 ?_))
       all_goals (first | refine Zd 10 ?_ | refine Zb 10 ?_ | (refine Zm (i := 10) ?_; ((try refine Zk ?_); (first | (refine Zc (.func 121) ?_; refine qC rfl rfl (Va _ num hnum ⟨st, ls, cc, false, 0⟩ w hC hco hir hik hst8 hls8) ?_; rintro v9 ρ9 L9 hle9 ⟨rfl, hl9, rfl⟩; simp only [List.cons_append, List.nil_append]) | (refine Zf ?_; refine qQ ?_) | (refine Zj ?_; try intro _)) <;> ((try simp only [kM, kN, kO]); refine Za ?_; refine Zl ?_))))
       all_goals ((first | refine Zd 11 ?_ | refine Zb 11 ?_ | refine wCm 11 ?_); refine rPk 12 ?_; refine ZO 13 ?_; (first | refine Zd 14 ?_ | refine Zb 14 ?_ | refine Yk 14 ?_); (first | refine Zd 17 ?_ | refine Zb 17 ?_ | refine wLd 17 ?_))
       all_goals (first | refine Zd 15 ?_ | refine Zb 15 ?_ | (refine Zm (i := 15) ?_; ((try refine Zk ?_); (first | (refine Zc (.func 121) ?_; refine qC rfl rfl (Va _ num hnum ⟨st, ls, cc, false, 0⟩ w hC hco hir hik hst8 hls8) ?_; rintro v9 ρ9 L9 hle9 ⟨rfl, hl9, rfl⟩; simp only [List.cons_append, List.nil_append]) | (refine Zf ?_; refine qQ ?_) | (refine Zj ?_; try intro _)) <;> ((try simp only [kM, kN, kO]); refine Za ?_; refine Zl ?_))))
       all_goals (first | refine Zd 16 ?_ | refine Zb 16 ?_ | (refine Zm (i := 16) ?_; ((try refine Zk ?_); (first | (refine Zc (.func 121) ?_; refine qC rfl rfl (Va _ num hnum ⟨st, ls, cc, false, 0⟩ w hC hco hir hik hst8 hls8) ?_; rintro v9 ρ9 L9 hle9 ⟨rfl, hl9, rfl⟩; simp only [List.cons_append, List.nil_append]) | (refine Zf ?_; refine qQ ?_) | (refine Zj ?_; try intro _)) <;> ((try simp only [kM, kN, kO]); refine Za ?_; refine Zl ?_))))
       all_goals ((first | refine Zd 18 ?_ | refine Zb 18 ?_ | refine wCm 18 ?_); refine rPk 19 ?_; refine Yv 20 ?_)
       all_goals (refine Zm (i := 21) ?_; ((try refine Zk ?_); (first | (refine Zf ?_; refine qQ ?_) | (refine Zj ?_; try intro _)) <;> ((try simp only [kM, kN, kO]); refine Za ?_; refine Zl ?_)))
       all_goals refine ZI ?_
       all_goals (repeat' (first | (refine Zg ?_; first | (refine Zf ?_; refine qQ ?_) | refine Zj ?_ | refine qAn ?_ | refine qXo ?_ | refine qNt ?_) | refine Za ?_ | (refine Zh ?_; refine Zu ?_) | (refine Zi ?_; refine Zv ?_) | intro _))
       all_goals have hv : S = ⟨st, ls, cc, false, 0⟩ := by rw [hsF]; congr 1; exact decide_eq_false (fun hh => h4 hh.2.2.2)
       all_goals subst hv
       all_goals have hfin := Hp.le_trans hl48 hl9
       all_goals exact qE (L' := []) ⟨hfin, w, rfl, hC.mono hl9, rfl⟩
     ·have h3' : ¬ (0 : Int) < ((st : Nat) : Int) := by omega
      refine Zz (Zr _ _ ([])) (Zy (hT := tk) (Hp.le_refl _)) ?_
      all_goals (refine ZO 0 ?_; refine rCm 1 ?_; refine ZO 2 ?_; (first | refine Zd 3 ?_ | refine Zb 3 ?_ | refine Yk 3 ?_); (first | refine Zd 4 ?_ | refine Zb 4 ?_ | refine Yk 4 ?_); (first | refine Zd 5 ?_ | refine Zb 5 ?_ | refine wSb 5 ?_); (first | refine Zd 6 ?_ | refine Zb 6 ?_ | refine wCm 6 ?_); refine rPk 7 ?_; refine ZO 8 ?_; (first | refine Zd 9 ?_ | refine Zb 9 ?_ | refine wFa 9 ?_))
      all_goals (first | refine Zd 10 ?_ | refine Zb 10 ?_ | (refine Zm (i := 10) ?_; ((try refine Zk ?_); (first | (refine Zf ?_; refine qQ ?_) | (refine Zj ?_; try intro _)) <;> ((try simp only [kM, kN, kO]); refine Za ?_; refine Zl ?_))))
      all_goals ((first | refine Zd 11 ?_ | refine Zb 11 ?_ | refine wCm 11 ?_); refine rPk 12 ?_; refine ZO 13 ?_; (first | refine Zd 14 ?_ | refine Zb 14 ?_ | refine Yk 14 ?_); (first | refine Zd 17 ?_ | refine Zb 17 ?_ | refine wLd 17 ?_))
      all_goals (first | refine Zd 15 ?_ | refine Zb 15 ?_ | (refine Zm (i := 15) ?_; ((try refine Zk ?_); (first | (refine Zf ?_; refine qQ ?_) | (refine Zj ?_; try intro _)) <;> ((try simp only [kM, kN, kO]); refine Za ?_; refine Zl ?_))))
      all_goals (first | refine Zd 16 ?_ | refine Zb 16 ?_ | (refine Zm (i := 16) ?_; ((try refine Zk ?_); (first | (refine Zf ?_; refine qQ ?_) | (refine Zj ?_; try intro _)) <;> ((try simp only [kM, kN, kO]); refine Za ?_; refine Zl ?_))))
      all_goals ((first | refine Zd 18 ?_ | refine Zb 18 ?_ | refine wCm 18 ?_); refine rPk 19 ?_; refine Yv 20 ?_)
      all_goals (refine Zm (i := 21) ?_; ((try refine Zk ?_); (first | (refine Zf ?_; refine qQ ?_) | (refine Zj ?_; try intro _)) <;> ((try simp only [kM, kN, kO]); refine Za ?_; refine Zl ?_)))
      all_goals refine ZI ?_
      all_goals (repeat' (first | (refine Zg ?_; first | (refine Zf ?_; refine qQ ?_) | refine Zj ?_ | refine qAn ?_ | refine qXo ?_ | refine qNt ?_) | refine Za ?_ | (refine Zh ?_; refine Zu ?_) | (refine Zi ?_; refine Zv ?_) | intro _))
      all_goals have hv : S = ⟨st, ls, cc, false, 0⟩ := by rw [hsF]; congr 1; exact decide_eq_false (fun hh => h3 hh.2.2.1)
      all_goals subst hv
      all_goals have hfin := hl48
      all_goals exact qE (L' := []) ⟨hfin, w, rfl, hC, rfl⟩
    ·refine Zz (Zr _ _ ([])) (Zy (hT := tk) (Hp.le_refl _)) ?_
     all_goals (refine ZO 0 ?_; refine rCm 1 ?_; refine ZO 2 ?_; (first | refine Zd 3 ?_ | refine Zb 3 ?_ | refine Yk 3 ?_); (first | refine Zd 4 ?_ | refine Zb 4 ?_ | refine Yk 4 ?_); (first | refine Zd 5 ?_ | refine Zb 5 ?_ | refine wSb 5 ?_); (first | refine Zd 6 ?_ | refine Zb 6 ?_ | refine wCm 6 ?_); refine rPk 7 ?_; refine ZO 8 ?_; (first | refine Zd 9 ?_ | refine Zb 9 ?_ | refine wFa 9 ?_))
     all_goals (first | refine Zd 10 ?_ | refine Zb 10 ?_ | (refine Zm (i := 10) ?_; ((try refine Zk ?_); (first | (refine Zf ?_; refine qQ ?_) | (refine Zj ?_; try intro _)) <;> ((try simp only [kM, kN, kO]); refine Za ?_; refine Zl ?_))))
     all_goals ((first | refine Zd 11 ?_ | refine Zb 11 ?_ | refine wCm 11 ?_); refine rPk 12 ?_; refine ZO 13 ?_; (first | refine Zd 14 ?_ | refine Zb 14 ?_ | refine Yk 14 ?_); (first | refine Zd 17 ?_ | refine Zb 17 ?_ | refine wLd 17 ?_))
     all_goals (first | refine Zd 15 ?_ | refine Zb 15 ?_ | (refine Zm (i := 15) ?_; ((try refine Zk ?_); (first | (refine Zf ?_; refine qQ ?_) | (refine Zj ?_; try intro _)) <;> ((try simp only [kM, kN, kO]); refine Za ?_; refine Zl ?_))))
     all_goals (first | refine Zd 16 ?_ | refine Zb 16 ?_ | (refine Zm (i := 16) ?_; ((try refine Zk ?_); (first | (refine Zf ?_; refine qQ ?_) | (refine Zj ?_; try intro _)) <;> ((try simp only [kM, kN, kO]); refine Za ?_; refine Zl ?_))))
     all_goals ((first | refine Zd 18 ?_ | refine Zb 18 ?_ | refine wCm 18 ?_); refine rPk 19 ?_; refine Yv 20 ?_)
     all_goals (refine Zm (i := 21) ?_; ((try refine Zk ?_); (first | (refine Zf ?_; refine qQ ?_) | (refine Zj ?_; try intro _)) <;> ((try simp only [kM, kN, kO]); refine Za ?_; refine Zl ?_)))
     all_goals refine ZI ?_
     all_goals (repeat' (first | (refine Zg ?_; first | (refine Zf ?_; refine qQ ?_) | refine Zj ?_ | refine qAn ?_ | refine qXo ?_ | refine qNt ?_) | refine Za ?_ | (refine Zh ?_; refine Zu ?_) | (refine Zi ?_; refine Zv ?_) | intro _))
     all_goals have hv : S = ⟨st, ls, cc, false, 0⟩ := by rw [hsF]; congr 1; exact decide_eq_false (fun hh => h2 hh.2.1)
     all_goals subst hv
     all_goals have hfin := hl48
     all_goals exact qE (L' := []) ⟨hfin, w, rfl, hC, rfl⟩
   ·refine Zz (Zr _ _ ([])) (Zy (hT := tk) (Hp.le_refl _)) ?_
    all_goals (refine ZO 0 ?_; refine rCm 1 ?_; refine ZO 2 ?_; (first | refine Zd 3 ?_ | refine Zb 3 ?_ | refine Yk 3 ?_); (first | refine Zd 4 ?_ | refine Zb 4 ?_ | refine Yk 4 ?_); (first | refine Zd 5 ?_ | refine Zb 5 ?_ | refine wSb 5 ?_); (first | refine Zd 6 ?_ | refine Zb 6 ?_ | refine wCm 6 ?_); refine rPk 7 ?_; refine ZO 8 ?_; (first | refine Zd 9 ?_ | refine Zb 9 ?_ | refine wFa 9 ?_))
    all_goals (first | refine Zd 10 ?_ | refine Zb 10 ?_ | (refine Zm (i := 10) ?_; ((try refine Zk ?_); (first | (refine Zf ?_; refine qQ ?_) | (refine Zj ?_; try intro _)) <;> ((try simp only [kM, kN, kO]); refine Za ?_; refine Zl ?_))))
    all_goals ((first | refine Zd 11 ?_ | refine Zb 11 ?_ | refine wCm 11 ?_); refine rPk 12 ?_; refine ZO 13 ?_; (first | refine Zd 14 ?_ | refine Zb 14 ?_ | refine Yk 14 ?_); (first | refine Zd 17 ?_ | refine Zb 17 ?_ | refine wLd 17 ?_))
    all_goals (first | refine Zd 15 ?_ | refine Zb 15 ?_ | (refine Zm (i := 15) ?_; ((try refine Zk ?_); (first | (refine Zf ?_; refine qQ ?_) | (refine Zj ?_; try intro _)) <;> ((try simp only [kM, kN, kO]); refine Za ?_; refine Zl ?_))))
    all_goals (first | refine Zd 16 ?_ | refine Zb 16 ?_ | (refine Zm (i := 16) ?_; ((try refine Zk ?_); (first | (refine Zf ?_; refine qQ ?_) | (refine Zj ?_; try intro _)) <;> ((try simp only [kM, kN, kO]); refine Za ?_; refine Zl ?_))))
    all_goals ((first | refine Zd 18 ?_ | refine Zb 18 ?_ | refine wCm 18 ?_); refine rPk 19 ?_; refine Yv 20 ?_)
    all_goals (refine Zm (i := 21) ?_; ((try refine Zk ?_); (first | (refine Zf ?_; refine qQ ?_) | (refine Zj ?_; try intro _)) <;> ((try simp only [kM, kN, kO]); refine Za ?_; refine Zl ?_)))
    all_goals refine ZI ?_
    all_goals (repeat' (first | (refine Zg ?_; first | (refine Zf ?_; refine qQ ?_) | refine Zj ?_ | refine qAn ?_ | refine qXo ?_ | refine qNt ?_) | refine Za ?_ | (refine Zh ?_; refine Zu ?_) | (refine Zi ?_; refine Zv ?_) | intro _))
    all_goals have hv : S = ⟨st, ls, cc, false, 0⟩ := by rw [hsF]; congr 1; exact decide_eq_false (fun hh => h1 hh.1)
    all_goals subst hv
    all_goals have hfin := hl48
    all_goals exact qE (L' := []) ⟨hfin, w, rfl, hC, rfl⟩
def XA (b : Blk) : Nat := Yx ((b.drop 2).take 8)
theorem stampOf_lt (b : Blk) : XA b < 18446744073709551616 := unbe_take8 _
def PartOk (num i : Nat) (b : Blk) : Prop := (b.getD 0 0).toNat = num ∧ (b.getD 1 0).toNat = i ∧ Yx (b.drop 60) = sumB (b.take 60)
instance (num i : Nat) (b : Blk) : Decidable (PartOk num i b) := by unfold PartOk; infer_instance
def stampR (num i : Nat) (b : Blk) : Nat := if PartOk num i b then XA b else 0
def Wm (num : Nat) (a b : Blk) : Nat := max (stampR num 0 a) (stampR num 1 b)
def stampsTo (num : Nat) (a b : Blk) (i : Nat) : Nat := if i = 0 then 0 else if i = 1 then stampR num 0 a else Wm num a b
theorem stamps_spec (ρ : Hp) (num : Nat) (hnum : num < 64) (a b : Blk) (ha : a.length = 64) (hb : b.length = 64) :
  Spec Tryz.prog 183 [.int .i64 num, .agg ⟨(a ++ b).map ZD⟩] ρ [] (fun v ρ' L' => v = .int .u64 (Wm num a b : Nat) ∧ ρ.le ρ' ∧ L' = []) := by
 have hab : ((a ++ b).map ZD).length = 128 := by simp [ha, hb]
 have hone := Yr (a ++ b)
 have hld : List.take 128 (List.drop 0 ((a ++ b).map ZD)) = (a ++ b).map ZD := by rw [List.drop_zero, List.take_of_length_le (by omega)]
 refine Ze Tryz.func183 rfl rfl rfl fun u R => ?_
 simp only [Zt, List.cons_append, List.nil_append]
 repeat' (first | (refine Zg ?_; first | (refine Zf ?_; refine qQ ?_) | refine Zj ?_ | refine qAn ?_ | refine qXo ?_ | refine qNt ?_) | refine Za ?_ | (refine Zh ?_; refine Zu ?_) | (refine Zi ?_; refine Zv ?_) | intro _)
 refine ZH [(0, _), (4, _), (8, _)] (fun (ζ : (Nat) × (Hp) × (Nat)) => [(9, .int .i64 ζ.1), (5, .int .u64 ζ.2.2)]) (fun (ζ : (Nat) × (Hp) × (Nat)) => ζ.2.1) (fun (ζ : (Nat) × (Hp) × (Nat)) => []) (fun (ζ : (Nat) × (Hp) × (Nat)) => ζ.1 ≤ 2 ∧ ρ.le ζ.2.1 ∧ ζ.2.2 = stampsTo num a b ζ.1) (fun (ζ : (Nat) × (Hp) × (Nat)) => 2 - ζ.1) ((0, ρ, 0)) (⟨Nat.zero_le _, Hp.le_refl _, rfl⟩) Zo Zo rfl tk ?_
 rintro ⟨i, ρ5, y⟩ hI
 try simp only [List.cons_append, List.nil_append, List.append_assoc, List.append_eq] at hI ⊢
 try dsimp only at hI ⊢
 obtain ⟨hi, hl5, hy⟩ := hI
 by_cases hlt : i < 2
 ·obtain ⟨blk, hbl, hix, hnx⟩ : ∃ blk : Blk, blk.length = 64 ∧ (((a ++ b).map ZD).drop (i * 64)).take 64 = blk.map ZD ∧ max (stampsTo num a b i) (stampR num i blk) = stampsTo num a b (i + 1) := by
   rcases (show i = 0 ∨ i = 1 by omega) with rfl | rfl
   ·refine ⟨a, ha, ?_, by simp [stampsTo]⟩
    rw [List.map_append, Nat.zero_mul, List.drop_zero, List.take_left' (by simpa using ha)]
   ·refine ⟨b, hb, ?_, by simp [stampsTo, Wm]⟩
    rw [List.map_append, Nat.one_mul, List.drop_left' (by simpa using ha), List.take_of_length_le (by simp; omega)]
  have hb64 : (blk.map ZD).length = 64 := by simpa using hbl
  have hbo := Yr blk
  repeat' (first | (refine ZL (y_index_a rfl rfl hlt hix) rfl rfl ?_) | (refine Zg ?_; first | (refine Zf ?_; refine qQ ?_) | refine Zj ?_ | refine qAn ?_ | refine qXo ?_ | refine qNt ?_) | refine Za ?_ | (refine Zh ?_; refine Zu ?_) | (refine Zi ?_; refine Zv ?_) | intro _)
  rename_i b2 b7
  refine tc_freeze [(b7, .cells ⟨blk.map ZD⟩ 172 (0, 0))] (h := by infer_instance) (fun ρ6 hl6 hfz => ?_)
  have hbs := hfz _ (List.mem_singleton.2 rfl)
  dsimp only at hbs
  have hs60 := sIn_part hbs 60 4 (by omega)
  have hsA := sIn_part hbs 0 60 (by omega)
  have hs16 := sIn_part hbs 2 16 (by omega)
  rw [List.drop_zero] at hsA
  have hx60 : Yx (((blk.drop 60).take 4).take 4) = Yx (blk.drop 60) := by rw [List.take_take, List.take_of_length_le (by simp; omega)]
  have hc0 : (blk.map ZD)[0 + Int.toNat 0 * 1]? = some (ZD (blk.getD 0 0)) := by
   rw [show 0 + Int.toNat 0 * 1 = 0 from rfl, List.getElem?_map, List.getD_eq_getElem?_getD, List.getElem?_eq_getElem (by omega)]; rfl
  have hc1 : (blk.map ZD)[0 + Int.toNat 1 * 1]? = some (ZD (blk.getD 1 0)) := by
   rw [show 0 + Int.toNat 1 * 1 = 1 from rfl, List.getElem?_map, List.getD_eq_getElem?_getD, List.getElem?_eq_getElem (by omega)]; rfl
  have hx8 : Yx (((blk.drop 2).take 16).take 8) = XA blk := by rw [List.take_take]; rfl
  have hl0 := (blk.getD 0 0).toNat_lt
  have hl1 := (blk.getD 1 0).toNat_lt
  have hyl : y < 18446744073709551616 := by
   have h1 := stampOf_lt a; have h2 := stampOf_lt b
   subst hy; unfold stampsTo Wm stampR; repeat' split
   all_goals omega
  by_cases h0 : (blk.getD 0 0).toNat = num
  ·by_cases h1 : (blk.getD 1 0).toNat = i
   ·by_cases h2 : Yx (blk.drop 60) = sumB (blk.take 60)
    ·have h2' : ((Yx (blk.drop 60) : Nat) : Int) = ((sumB (blk.take 60) : Nat) : Int) := by rw [h2]
     have hR : stampR num i blk = XA blk := if_pos ⟨h0, h1, h2⟩
     rw [hR, ← hy] at hnx
     refine Zz (Zr _ _ ([])) (Zy (hT := tk) (Hp.le_refl _)) ?_
     all_goals (refine rIa 0 ?_; refine ZX 1 ?_; refine rCv 2 ?_; refine ZO 3 ?_; refine rCm 4 ?_; refine ZO 5 ?_; (first | refine Zd 6 ?_ | refine Zb 6 ?_ | refine wIa 6 ?_); (first | refine Zd 7 ?_ | refine Zb 7 ?_ | refine wLd 7 ?_); (first | refine Zd 8 ?_ | refine Zb 8 ?_ | refine wCv 8 ?_); (first | refine Zd 9 ?_ | refine Zb 9 ?_ | refine Yk 9 ?_); (first | refine Zd 10 ?_ | refine Zb 10 ?_ | refine wCm 10 ?_); refine rPk 11 ?_; refine ZO 12 ?_; (first | refine Zd 13 ?_ | refine Zb 13 ?_ | refine wSl 13 ?_); (first | refine Zd 16 ?_ | refine Zb 16 ?_ | refine wSl 16 ?_))
     all_goals (first | refine Zd 14 ?_ | refine Zb 14 ?_ | (refine Zm (i := 14) ?_; ((try refine Zk ?_); (first | (refine Zc (.func 96) ?_; refine qC rfl rfl (read_spec _ _ 4 _ _ (by first | exact hs60 | exact hs60.mono (by assumption)) (by omega)) ?_; rintro v2 ρ2 L2 hle2 ⟨hl2, br, ra, rc, rfl, hrc, hrs, rfl⟩; simp only [List.cons_append, List.nil_append]) | (refine Zj ?_; try intro _)) <;> ((try simp only [kM, kN, kO]); refine Za ?_; refine Zl ?_))))
     all_goals (first | refine Zd 15 ?_ | refine Zb 15 ?_ | (refine Zm (i := 15) ?_; ((try refine Zk ?_); (first | (refine Zc (.func 99) ?_; refine qC rfl rfl (u32_ok _ br ra 4 rc _ hrs hrc (by omega)) ?_; rintro v3 ρ3 L3 hle3 ⟨rfl, rfl, ra3, rn3, rc3, rfl⟩; simp only [List.cons_append, List.nil_append, hx60]) | (refine Zj ?_; try intro _)) <;> ((try simp only [kM, kN, kO]); refine Za ?_; refine Zl ?_))))
     all_goals (first | refine Zd 17 ?_ | refine Zb 17 ?_ | (refine Zm (i := 17) ?_; ((try refine Zk ?_); (first | (refine Zc (.func 180) ?_; refine qC rfl rfl (sum32_spec _ _ 60 _ _ (by first | exact hsA | exact hsA.mono (by assumption)) (by omega)) ?_; rintro v4 ρ4 L4 hle4 ⟨rfl, rfl, rfl⟩; simp only [List.cons_append, List.nil_append]) | (refine Zj ?_; try intro _)) <;> ((try simp only [kM, kN, kO]); refine Za ?_; refine Zl ?_))))
     all_goals (refine ZN ?_; (first | refine Zd 18 ?_ | refine Zb 18 ?_ | refine wCm 18 ?_); refine rPk 19 ?_; refine ZI ?_)
     all_goals have hs16' := hs16.mono hl2
     all_goals (repeat' (first | (refine Zc (.func 96) ?_; refine qC rfl rfl (read_spec _ _ 16 _ _ hs16' (by omega)) ?_; rintro v5 ρ7 L5 hle5 ⟨hl7, br5, ra5, rc5, rfl, hrc5, hrs5, rfl⟩; simp only [List.cons_append, List.nil_append]) | (refine Zc (.func 98) ?_; refine qC rfl rfl (u64_ok _ br5 ra5 16 rc5 _ hrs5 hrc5 (by omega)) ?_; rintro v6 ρ8 L6 hle6 ⟨rfl, rfl, ra6, rc6, hrs6, hrc6, rfl⟩; simp only [List.cons_append, List.nil_append, hx8]) | (refine Zg ?_; first | (refine Zf ?_; refine qQ ?_) | refine Zj ?_ | refine qAn ?_ | refine qXo ?_ | refine qNt ?_) | refine Za ?_ | (refine Zh ?_; refine Zu ?_) | (refine Zi ?_; refine Zv ?_) | intro _))
     all_goals rw [show max ((y : Nat) : Int) ((XA blk : Nat) : Int) = ((max y (XA blk) : Nat) : Int) by omega]
     all_goals have hfin := Hp.le_trans hl5 (Hp.le_trans hl6 (Hp.le_trans hl2 hl7))
     all_goals refine Zx (i + 1, _, max y (XA blk)) (⟨hlt, hfin, hnx⟩) Zo Zo rfl tk inferInstance (by first | omega | (dsimp only; omega))
    ·have h2' : ¬ ((Yx (blk.drop 60) : Nat) : Int) = ((sumB (blk.take 60) : Nat) : Int) := by omega
     refine Zz (Zr _ _ ([])) (Zy (hT := tk) (Hp.le_refl _)) ?_
     all_goals (refine rIa 0 ?_; refine ZX 1 ?_; refine rCv 2 ?_; refine ZO 3 ?_; refine rCm 4 ?_; refine ZO 5 ?_; (first | refine Zd 6 ?_ | refine Zb 6 ?_ | refine wIa 6 ?_); (first | refine Zd 7 ?_ | refine Zb 7 ?_ | refine wLd 7 ?_); (first | refine Zd 8 ?_ | refine Zb 8 ?_ | refine wCv 8 ?_); (first | refine Zd 9 ?_ | refine Zb 9 ?_ | refine Yk 9 ?_); (first | refine Zd 10 ?_ | refine Zb 10 ?_ | refine wCm 10 ?_); refine rPk 11 ?_; refine ZO 12 ?_; (first | refine Zd 13 ?_ | refine Zb 13 ?_ | refine wSl 13 ?_); (first | refine Zd 16 ?_ | refine Zb 16 ?_ | refine wSl 16 ?_))
     all_goals (first | refine Zd 14 ?_ | refine Zb 14 ?_ | (refine Zm (i := 14) ?_; ((try refine Zk ?_); (first | (refine Zc (.func 96) ?_; refine qC rfl rfl (read_spec _ _ 4 _ _ (by first | exact hs60 | exact hs60.mono (by assumption)) (by omega)) ?_; rintro v2 ρ2 L2 hle2 ⟨hl2, br, ra, rc, rfl, hrc, hrs, rfl⟩; simp only [List.cons_append, List.nil_append]) | (refine Zj ?_; try intro _)) <;> ((try simp only [kM, kN, kO]); refine Za ?_; refine Zl ?_))))
     all_goals (first | refine Zd 15 ?_ | refine Zb 15 ?_ | (refine Zm (i := 15) ?_; ((try refine Zk ?_); (first | (refine Zc (.func 99) ?_; refine qC rfl rfl (u32_ok _ br ra 4 rc _ hrs hrc (by omega)) ?_; rintro v3 ρ3 L3 hle3 ⟨rfl, rfl, ra3, rn3, rc3, rfl⟩; simp only [List.cons_append, List.nil_append, hx60]) | (refine Zj ?_; try intro _)) <;> ((try simp only [kM, kN, kO]); refine Za ?_; refine Zl ?_))))
     all_goals (first | refine Zd 17 ?_ | refine Zb 17 ?_ | (refine Zm (i := 17) ?_; ((try refine Zk ?_); (first | (refine Zc (.func 180) ?_; refine qC rfl rfl (sum32_spec _ _ 60 _ _ (by first | exact hsA | exact hsA.mono (by assumption)) (by omega)) ?_; rintro v4 ρ4 L4 hle4 ⟨rfl, rfl, rfl⟩; simp only [List.cons_append, List.nil_append]) | (refine Zj ?_; try intro _)) <;> ((try simp only [kM, kN, kO]); refine Za ?_; refine Zl ?_))))
     all_goals (refine ZN ?_; (first | refine Zd 18 ?_ | refine Zb 18 ?_ | refine wCm 18 ?_); refine rPk 19 ?_; refine ZI ?_)
     all_goals (repeat' (first | (refine Zg ?_; first | (refine Zf ?_; refine qQ ?_) | refine Zj ?_ | refine qAn ?_ | refine qXo ?_ | refine qNt ?_) | refine Za ?_ | (refine Zh ?_; refine Zu ?_) | (refine Zi ?_; refine Zv ?_) | intro _))
     all_goals have hR0 : stampR num i blk = 0 := if_neg (fun hh => h2 hh.2.2)
     all_goals rw [hR0, Nat.max_zero, ← hy] at hnx
     all_goals have hfin := Hp.le_trans hl5 (Hp.le_trans hl6 hl2)
     all_goals refine Zx (i + 1, _, y) (⟨hlt, hfin, hnx⟩) Zo Zo rfl tk inferInstance (by first | omega | (dsimp only; omega))
   ·skip
    refine Zz (Zr _ _ ([])) (Zy (hT := tk) (Hp.le_refl _)) ?_
    all_goals (refine rIa 0 ?_; refine ZX 1 ?_; refine rCv 2 ?_; refine ZO 3 ?_; refine rCm 4 ?_; refine ZO 5 ?_; (first | refine Zd 6 ?_ | refine Zb 6 ?_ | refine wIa 6 ?_); (first | refine Zd 7 ?_ | refine Zb 7 ?_ | refine wLd 7 ?_); (first | refine Zd 8 ?_ | refine Zb 8 ?_ | refine wCv 8 ?_); (first | refine Zd 9 ?_ | refine Zb 9 ?_ | refine Yk 9 ?_); (first | refine Zd 10 ?_ | refine Zb 10 ?_ | refine wCm 10 ?_); refine rPk 11 ?_; refine ZO 12 ?_; (first | refine Zd 13 ?_ | refine Zb 13 ?_ | refine wSl 13 ?_); (first | refine Zd 16 ?_ | refine Zb 16 ?_ | refine wSl 16 ?_))
    all_goals (first | refine Zd 14 ?_ | refine Zb 14 ?_ | (refine Zm (i := 14) ?_; ((try refine Zk ?_); (first | (refine Zj ?_; try intro _)) <;> ((try simp only [kM, kN, kO]); refine Za ?_; refine Zl ?_))))
    all_goals (first | refine Zd 15 ?_ | refine Zb 15 ?_ | (refine Zm (i := 15) ?_; ((try refine Zk ?_); (first | (refine Zj ?_; try intro _)) <;> ((try simp only [kM, kN, kO]); refine Za ?_; refine Zl ?_))))
    all_goals (first | refine Zd 17 ?_ | refine Zb 17 ?_ | (refine Zm (i := 17) ?_; ((try refine Zk ?_); (first | (refine Zj ?_; try intro _)) <;> ((try simp only [kM, kN, kO]); refine Za ?_; refine Zl ?_))))
    all_goals (refine ZN ?_; (first | refine Zd 18 ?_ | refine Zb 18 ?_ | refine wCm 18 ?_); refine rPk 19 ?_; refine ZI ?_)
    all_goals (repeat' (first | (refine Zg ?_; first | (refine Zf ?_; refine qQ ?_) | refine Zj ?_ | refine qAn ?_ | refine qXo ?_ | refine qNt ?_) | refine Za ?_ | (refine Zh ?_; refine Zu ?_) | (refine Zi ?_; refine Zv ?_) | intro _))
    all_goals have hR0 : stampR num i blk = 0 := if_neg (fun hh => h1 hh.2.1)
    all_goals rw [hR0, Nat.max_zero, ← hy] at hnx
    all_goals refine Zx (i + 1, ρ6, y) (⟨hlt, Hp.le_trans hl5 hl6, hnx⟩) Zo Zo rfl tk inferInstance (by first | omega | (dsimp only; omega))
  ·skip
   refine Zz (Zr _ _ ([])) (Zy (hT := tk) (Hp.le_refl _)) ?_
   all_goals (refine rIa 0 ?_; refine ZX 1 ?_; refine rCv 2 ?_; refine ZO 3 ?_; refine rCm 4 ?_; refine ZO 5 ?_; (first | refine Zd 6 ?_ | refine Zb 6 ?_ | refine wIa 6 ?_); (first | refine Zd 7 ?_ | refine Zb 7 ?_ | refine wLd 7 ?_); (first | refine Zd 8 ?_ | refine Zb 8 ?_ | refine wCv 8 ?_); (first | refine Zd 9 ?_ | refine Zb 9 ?_ | refine Yk 9 ?_); (first | refine Zd 10 ?_ | refine Zb 10 ?_ | refine wCm 10 ?_); refine rPk 11 ?_; refine ZO 12 ?_; (first | refine Zd 13 ?_ | refine Zb 13 ?_ | refine wSl 13 ?_); (first | refine Zd 16 ?_ | refine Zb 16 ?_ | refine wSl 16 ?_))
   all_goals (first | refine Zd 14 ?_ | refine Zb 14 ?_ | (refine Zm (i := 14) ?_; ((try refine Zk ?_); (first | (refine Zj ?_; try intro _)) <;> ((try simp only [kM, kN, kO]); refine Za ?_; refine Zl ?_))))
   all_goals (first | refine Zd 15 ?_ | refine Zb 15 ?_ | (refine Zm (i := 15) ?_; ((try refine Zk ?_); (first | (refine Zj ?_; try intro _)) <;> ((try simp only [kM, kN, kO]); refine Za ?_; refine Zl ?_))))
   all_goals (first | refine Zd 17 ?_ | refine Zb 17 ?_ | (refine Zm (i := 17) ?_; ((try refine Zk ?_); (first | (refine Zj ?_; try intro _)) <;> ((try simp only [kM, kN, kO]); refine Za ?_; refine Zl ?_))))
   all_goals (refine ZN ?_; (first | refine Zd 18 ?_ | refine Zb 18 ?_ | refine wCm 18 ?_); refine rPk 19 ?_; refine ZI ?_)
   all_goals (repeat' (first | (refine Zg ?_; first | (refine Zf ?_; refine qQ ?_) | refine Zj ?_ | refine qAn ?_ | refine qXo ?_ | refine qNt ?_) | refine Za ?_ | (refine Zh ?_; refine Zu ?_) | (refine Zi ?_; refine Zv ?_) | intro _))
   all_goals have hR0 : stampR num i blk = 0 := if_neg (fun hh => h0 hh.1)
   all_goals rw [hR0, Nat.max_zero, ← hy] at hnx
   all_goals refine Zx (i + 1, ρ6, y) (⟨hlt, Hp.le_trans hl5 hl6, hnx⟩) Zo Zo rfl tk inferInstance (by first | omega | (dsimp only; omega))
 ·have h2 : i = 2 := by omega
  subst h2
  repeat' (first | (refine Zg ?_; first | (refine Zf ?_; refine qQ ?_) | refine Zj ?_ | refine qAn ?_ | refine qXo ?_ | refine qNt ?_) | refine Za ?_ | (refine Zh ?_; refine Zu ?_) | (refine Zi ?_; refine Zv ?_) | intro _)
  subst hy
  exact qE (L' := []) ⟨rfl, hl5, rfl⟩
end Go.Proofs.E
