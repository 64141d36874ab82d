/- The law LogNils. Part 11 of 12. -/
import Derived.Test.YtobldeddiffjgaaGreatA10
namespace Go.Proofs.E
open Go
set_option linter.unusedVariables false
set_option linter.unusedSimpArgs false
set_option linter.unusedSectionVars false
set_option maxRecDepth 4000
set_option maxHeartbeats 1000000
attribute [local irreducible] Yl TL TC TE Spec YSpec R1 Hp.le EnvLe TS TR YS Zs
def XT (to : Nat) : List RR → RgS → DS → Nat → RgS × DS × Nat × Int
 | [], R, D, f => (R, D, f, 0)
 | x :: l, R, D, f => if to < x.2.lsn then (R, D, f, 0)
  else if (R.append (XA x.2) D).2.2 = 0 then XT to l (R.append (XA x.2) D).1 (R.append (XA x.2) D).2.1 x.2.lsn
  else ((R.append (XA x.2) D).1, (R.append (XA x.2) D).2.1, f, (R.append (XA x.2) D).2.2)
def LgS.at (S : LgS) (R : RgS) (f : Nat) : LgS := { S with R := R, fl := f }
def LgS.flush (S : LgS) (to : Nat) (D : DS) : LgS × DS × Int :=
 if S.next ≤ to then (S, D, 2) else
 (S.at (XT to (fromL S (S.fl + 1)) S.R D S.fl).1 (XT to (fromL S (S.fl + 1)) S.R D S.fl).2.2.1, (XT to (fromL S (S.fl + 1)) S.R D S.fl).2.1, (XT to (fromL S (S.fl + 1)) S.R D S.fl).2.2.2)
theorem fromL_mem {S : LgS} {lsn : Nat} {x : RR} (h : x ∈ fromL S lsn) : x ∈ S.recs := (List.mem_filter.1 h).1
abbrev b2C (b lb : Nat) : List (Nat × Obj) := [(b, .cells ⟨[.pointer (some ⟨lb, 0, none⟩)]⟩ 24 (0, 0))]
abbrev b3C (b to : Nat) : List (Nat × Obj) := [(b, .cells ⟨[.int .u64 (to : Nat)]⟩ 22 (0, 0))]
abbrev b4C (b : Nat) (e : Int) : List (Nat × Obj) := [(b, .cells ⟨[.int .i64 e]⟩ 25 (0, 0))]
theorem flush16_nil (ρ : Hp) (to : Nat) : Spec Tryz.prog 12 [.pointer none, .int .u64 (to : Nat)] ρ [] (fun v ρ' L' => v = .int .i64 1 ∧ ρ' = ρ ∧ L' = []) := by
 refine Zd Tryz.func12 rfl rfl rfl fun u R => ?_
 simp only [Zo, List.cons_append, List.nil_append]
 repeat' (first | (refine Zg ?_; first | (refine Zf ?_; refine qQ ?_) | refine Zn ?_) | refine Za ?_ | (refine Zh ?_; refine Zu ?_) | (refine Zi ?_; refine Zv ?_) | intro _)
 exact qE ⟨rfl, rfl, rfl⟩
theorem flush16_spec (ρ : Hp) (lb rb db : Nat) (S : LgS) (v : Value) (sp : List Value) (h : LgIn ρ S v sp) (w : RW) (hR : RIn ρ S.R w) (k : DK) (D : DS) (hD : DOk k D) (to : Nat) (hf : S.fl < 1000000000000000) :
  Spec Tryz.prog 12 [.pointer (some ⟨lb, 0, none⟩), .int .u64 (to : Nat)] ρ (YH lb rb S v :: ownR S v sp :: (Xb rb db S.R w ++ ZZ db k D))
   (fun z ρ' L' => z = .int .i64 (S.flush to D).2.2 ∧ ρ.le ρ' ∧ ∃ w' k', RIn ρ' (S.flush to D).1.R w' ∧ DOk k' (S.flush to D).2.1 ∧ L' = YH lb rb (S.flush to D).1 v :: ownR S v sp :: (Xb rb db (S.flush to D).1.R w' ++ ZZ db k' (S.flush to D).2.1)) := by
 have hn := fun ρ => next16_spec ρ lb rb S v sp
 by_cases hto : S.next ≤ to
 ·have e : S.flush to D = (S, D, 2) := by unfold LgS.flush; rw [if_pos hto]
  rw [e]
  refine Zd Tryz.func12 rfl rfl rfl fun u R => ?_
  simp only [Zo, List.cons_append, List.nil_append]
  repeat' (first | (refine Zg ?_; first | (refine Zf ?_; refine qQ ?_) | refine Zn ?_) | refine Za ?_ | (refine Zh ?_; refine Zu ?_) | (refine Zi ?_; refine Zv ?_) | intro _)
  rename_i c2 c3 c4
  refine ZF (Zs _ _ ([b2C c2 lb, b3C c3 to])) (ZC (hT := tk) (Hp.le_refl _)) ?_
  all_goals (refine rLd 0 ?_; refine rLd 1 ?_)
  all_goals (refine Zr (i := 2) ?_; ((try refine Zp ?_); (first | (refine Ze (.func 16) ?_; refine qC rfl rfl (hn _ h) ?_; rintro v ρ' L' hle ⟨rfl, rfl, rfl⟩ <;> (try simp only [kM, kN, kO])) | (refine Zn ?_; try intro _)) <;> ((try simp only [kM, kN, kO]); refine Za ?_; refine Zq ?_)))
  all_goals (refine Ya ?_; refine rCm 3 ?_; refine ZO ?_)
  all_goals (repeat' (first | (refine Zg ?_; first | (refine Zf ?_; refine qQ ?_) | refine Zn ?_) | refine Za ?_ | (refine Zh ?_; refine Zu ?_) | (refine Zi ?_; refine Zv ?_) | intro _))
  all_goals exact qE (L' := YH lb rb S v :: ownR S v sp :: (Xb rb db S.R w ++ ZZ db k D)) ⟨rfl, Hp.le_refl _, w, k, hR, hD, rfl⟩
 ·generalize hq : XT to (fromL S (S.fl + 1)) S.R D S.fl = q
  have e : S.flush to D = (S.at q.1 q.2.2.1, q.2.1, q.2.2.2) := by unfold LgS.flush; rw [if_neg hto, hq]
  rw [e]
  dsimp only
  obtain ⟨Rq, Dq, fq, eq⟩ := q
  refine Zd Tryz.func12 rfl rfl rfl fun u R => ?_
  simp only [Zo, List.cons_append, List.nil_append]
  have e1 : ((S.fl : Nat) : Int) + 1 = ((S.fl + 1 : Nat) : Int) := by omega
  repeat' (first | (refine Zg ?_; first | (refine Zf ?_; refine qQ ?_) | refine Zn ?_) | refine Za ?_ | (refine Zh ?_; refine Zu ?_) | (refine Zi ?_; refine Zv ?_) | intro _)
  rename_i c2 c3 c4
  refine ZF (Zs _ _ ([b2C c2 lb, b3C c3 to])) (ZC (hT := tk) (Hp.le_refl _)) ?_
  all_goals (refine rLd 0 ?_; refine rLd 1 ?_)
  all_goals (refine Zr (i := 2) ?_; ((try refine Zp ?_); (first | (refine Ze (.func 16) ?_; refine qC rfl rfl (hn _ h) ?_; rintro v ρ' L' hle ⟨rfl, rfl, rfl⟩ <;> (try simp only [kM, kN, kO])) | (refine Zn ?_; try intro _)) <;> ((try simp only [kM, kN, kO]); refine Za ?_; refine Zq ?_)))
  all_goals (refine Ya ?_; refine rCm 3 ?_; refine ZO ?_)
  all_goals (repeat' (first | (refine Zg ?_; first | (refine Zf ?_; refine qQ ?_) | refine Zn ?_) | refine Za ?_ | (refine Zh ?_; refine Zu ?_) | (refine Zi ?_; refine Zv ?_) | intro _))
  all_goals
   refine ZF (Zs _ _ _) ZY ?_
   all_goals (refine rLd 0 ?_; refine rLd 1 ?_; refine rNc 2 ?_; refine rFa 3 ?_; refine rLd 4 ?_; refine rAd 5 ?_)
   all_goals (refine Zr (i := 6) ?_; ((try refine Zp ?_); (first | (simp only [e1]; refine Ze (.func 54) ?_; refine qC rfl rfl (from16_spec _ lb (S.fl + 1)) ?_; rintro v1 ρ1 L1 hle1 ⟨d1, d2, rfl, rfl, rfl⟩; simp only [List.cons_append, List.nil_append]) | (refine Zn ?_; try intro _)) <;> ((try simp only [kM, kN, kO]); refine Za ?_; refine Zq ?_)))
   all_goals refine ZO ?_
  all_goals (repeat' (first | (refine Zg ?_; first | (refine Zf ?_; refine qQ ?_) | refine Zn ?_) | refine Za ?_ | (refine Zh ?_; refine Zu ?_) | (refine Zi ?_; refine Zv ?_) | intro _))
  refine tc_rangeFuncP (S := [fb1 d1 lb, fb2 d2 (S.fl + 1), ownR S v sp]) (L0 := [b2C c2 lb, b3C c3 to, b4C c4 0, YH lb rb S v] ++ (Xb rb db S.R w ++ ZZ db k D)) (R := R) (R0 := ?r0) rfl rfl (from16_iter ρ1 lb rb d1 d2 (S.fl + 1) S v sp h) (Hp.le_refl _) (fun _ => rfl) rfl
   (fun pre ρ2 Lu => ∃ R1 D1 f1 w1 k1, (∀ rest, XT to (pre ++ rest) S.R D S.fl = XT to rest R1 D1 f1) ∧ ρ1.le ρ2 ∧ RIn ρ2 R1 w1 ∧ DOk k1 D1 ∧ Lu = [b2C c2 lb, b3C c3 to, b4C c4 0, YH lb rb (S.at R1 f1) v] ++ (Xb rb db R1 w1 ++ ZZ db k1 D1))
   (fun c ρ2 Lu => ((c = .exit 0 ∧ eq = 0) ∨ (c = .ret ∧ eq ≠ 0)) ∧ ∃ w1 k1, ρ1.le ρ2 ∧ RIn ρ2 Rq w1 ∧ DOk k1 Dq ∧ Lu = [b2C c2 lb, b3C c3 to, b4C c4 eq, YH lb rb (S.at Rq fq) v] ++ (Xb rb db Rq w1 ++ ZZ db k1 Dq)) ?k1 ?k2 ⟨S.R, D, S.fl, w, k, fun _ => rfl, Hp.le_refl _, hR, hD, rfl⟩ ?hC ?round ?done ?stop
  case k1 => exact tk
  case k2 => exact tk
  case hC =>
   rintro ρ2 Lu ⟨R1, D1, f1, w1, k1, h1, _, _, _, rfl⟩
   have := h1 []
   simp only [List.append_nil, XT, Prod.mk.injEq] at this
   obtain ⟨rfl, rfl, rfl, _⟩ := this
   exact ⟨[b2C c2 lb, b3C c3 to, b4C c4 0], Xb rb db S.R w1 ++ ZZ db k1 D, rfl⟩
  case round =>
   rintro l tm r pre y ρ2 Lu u R' hpre hl1 ⟨R1, D1, f1, w1, k1, hgo, hl2, hR1, hD1, rfl⟩ hr hrec
   simp only [envP, List.cons_append, List.nil_append]
   obtain ⟨t, ht⟩ := hpre
   have hmem : y ∈ S.recs := fromL_mem (lsn := S.fl + 1) (by rw [← ht]; simp)
   have hin := (h.rin y hmem).mono hl2
   have hok := h.ok y hmem
   have hgo1 := hgo (y :: t)
   have ht' : pre ++ y :: t = fromL S (S.fl + 1) := by rw [← ht]; simp
   have hgo2 := fun rest => hgo (y :: rest)
   rw [ht', hq] at hgo1
   obtain ⟨yv, yr⟩ := y
   dsimp only at hin hok hgo1 hgo2
   rw [XT] at hgo1
   simp only [XT] at hgo2
   repeat' (first | (refine Zg ?_; first | (refine Zf ?_; refine qQ ?_) | refine Zn ?_) | refine Za ?_ | (refine Zh ?_; refine Zu ?_) | (refine Zi ?_; refine Zv ?_) | intro _)
   refine Yt [(l, .loop r)] ?_
   refine te_begin rfl hr (fun r' hbz hrec' => ?_)
   by_cases hgt : to < yr.lsn
   ·rw [if_pos hgt] at hgo1
    simp only [Prod.mk.injEq] at hgo1
    obtain ⟨rfl, rfl, rfl, rfl⟩ := hgo1
    repeat' (first | (refine Zg ?_; first | (refine Zf ?_; refine qQ ?_) | refine Zn ?_) | refine Za ?_ | (refine Zh ?_; refine Zu ?_) | (refine Zi ?_; refine Zv ?_) | intro _)
    refine Yt [(l, .loop r')] ?_
    refine te_leave (Lu := [b2C c2 lb, b3C c3 to, b4C c4 0, YH lb rb (S.at Rq fq) v] ++ (Xb rb db Rq w1 ++ ZZ db k1 Dq)) rfl rfl (Hp.le_refl _) ⟨hrec'.tmps.trans hrec.tmps, hrec'.params.trans hrec.params, hrec'.assign.trans hrec.assign, hrec'.body.trans hrec.body⟩ tk tk inferInstance ?_
    exact ⟨.inl ⟨rfl, rfl⟩, w1, k1, hl2, hR1, hD1, rfl⟩
   ·rw [if_neg hgt] at hgo1
    simp only [if_neg hgt] at hgo2
    have henc := rencode_spec ρ2 yv yr hin
    rw [hok] at henc
    simp only [if_true] at henc
    have hlen := recB_le (recOk_lay hok)
    have happ := fun {ρ3 : Hp} {a : Option Addr} {n c : Nat} (hl : ρ2.le ρ3) (hs : SIn ρ3 ZI a n (XA yr)) (hc : n ≤ c) => append_spec ρ3 rb db R1 w1 (hR1.mono hl) k1 D1 hD1 [] a n c (XA yr) hs.rd hc (by have := hs.len; omega)
    repeat' (first | (refine Ze (.func 56) ?_; refine qC rfl rfl (henc) ?_; rintro v ρ' L' hle ⟨hl3, ea, en, ec, rfl, hec, hes, rfl⟩ <;> (try simp only [kM, kN, kO])) | (refine Ze (.func 57) ?_; refine qC rfl rfl (happ (by assumption) hes hec) ?_; rintro v4 ρ4 L4 hle4 ⟨rfl, hl4, k4, w4, hD4, hR4, rfl⟩; try simp only [List.cons_append, List.nil_append, List.append_nil, List.append_assoc, List.append_eq]) | (refine Zg ?_; first | (refine Zf ?_; refine qQ ?_) | refine Zn ?_) | refine Za ?_ | (refine Zh ?_; refine Zu ?_) | (refine Zi ?_; refine Zv ?_) | intro _)
    generalize R1.append (XA yr) D1 = ap at *
    obtain ⟨Ra, Da, ea⟩ := ap
    dsimp only at *
    by_cases hz : ea = 0
    ·subst hz
     rw [if_pos rfl] at hgo1
     simp only [if_true] at hgo2
     rw [show ((0 : Int) != 0) = false from rfl]
     repeat' (first | (refine Zg ?_; first | (refine Zf ?_; refine qQ ?_) | refine Zn ?_) | refine Za ?_ | (refine Zh ?_; refine Zu ?_) | (refine Zi ?_; refine Zv ?_) | intro _)
     refine Yt [(l, .loop r')] ?_
     refine te_next (Lu := [b2C c2 lb, b3C c3 to, b4C c4 0, YH lb rb (S.at Ra yr.lsn) v] ++ (Xb rb db Ra w4 ++ ZZ db k4 Da)) rfl (Hp.le_trans hl3 hl4) ⟨hrec'.tmps.trans hrec.tmps, hrec'.params.trans hrec.params, hrec'.assign.trans hrec.assign, hrec'.body.trans hrec.body⟩ tk tk inferInstance ?_
     exact ⟨Ra, Da, yr.lsn, w4, k4, hgo2, Hp.le_trans hl2 (Hp.le_trans hl3 hl4), hR4, hD4, rfl⟩
    ·rw [if_neg hz] at hgo1
     simp only [Prod.mk.injEq] at hgo1
     obtain ⟨rfl, rfl, rfl, rfl⟩ := hgo1
     have hcb : (eq != 0) = true := by simpa using hz
     rw [hcb]
     repeat' (first | (refine Zg ?_; first | (refine Zf ?_; refine qQ ?_) | refine Zn ?_) | refine Za ?_ | (refine Zh ?_; refine Zu ?_) | (refine Zi ?_; refine Zv ?_) | intro _)
     refine Yt [(l, .loop r')] ?_
     refine te_leave (Lu := [b2C c2 lb, b3C c3 to, b4C c4 eq, YH lb rb (S.at Rq fq) v] ++ (Xb rb db Rq w4 ++ ZZ db k4 Dq)) rfl rfl (Hp.le_trans hl3 hl4) ⟨hrec'.tmps.trans hrec.tmps, hrec'.params.trans hrec.params, hrec'.assign.trans hrec.assign, hrec'.body.trans hrec.body⟩ tk tk inferInstance ?_
     exact ⟨.inr ⟨rfl, hz⟩, w4, k4, Hp.le_trans hl2 (Hp.le_trans hl3 hl4), hR4, hD4, rfl⟩
  case done =>
   rintro D0 ρ2 Lu hl1 ⟨R1, D1, f1, w1, k1, hgo, hl2, hR1, hD1, rfl⟩
   have := hgo []
   rw [List.append_nil, hq] at this
   simp only [XT, Prod.mk.injEq] at this
   obtain ⟨rfl, rfl, rfl, rfl⟩ := this
   simp only [List.cons_append, List.nil_append]
   repeat' (first | (refine Zg ?_; first | (refine Zf ?_; refine qQ ?_) | refine Zn ?_) | refine Za ?_ | (refine Zh ?_; refine Zu ?_) | (refine Zi ?_; refine Zv ?_) | intro _)
   refine Yt [(D0, .deferred (some []))] ?_
   exact te_end_d rfl rfl rfl inferInstance (res1 rfl (Zx rfl rfl)) hl2 tk (by infer_instance) (L' := YH lb rb (S.at Rq fq) v :: ownR S v sp :: (Xb rb db Rq w1 ++ ZZ db k1 Dq)) ⟨rfl, hl2, w1, k1, hR1, hD1, rfl⟩
  case stop =>
   rintro D0 c ρ2 Lu hl1 ⟨hc, w1, k1, hl2, hR1, hD1, rfl⟩
   simp only [List.cons_append, List.nil_append]
   rcases hc with ⟨rfl, rfl⟩ | ⟨rfl, hne⟩
   ·repeat' (first | (refine Zg ?_; first | (refine Zf ?_; refine qQ ?_) | refine Zn ?_) | refine Za ?_ | (refine Zh ?_; refine Zu ?_) | (refine Zi ?_; refine Zv ?_) | intro _)
    refine Yt [(D0, .deferred (some []))] ?_
    exact te_end_d rfl rfl rfl inferInstance (res1 rfl (Zx rfl rfl)) hl2 tk (by infer_instance) (L' := YH lb rb (S.at Rq fq) v :: ownR S v sp :: (Xb rb db Rq w1 ++ ZZ db k1 Dq)) ⟨rfl, hl2, w1, k1, hR1, hD1, rfl⟩
   ·repeat' (first | (refine Zg ?_; first | (refine Zf ?_; refine qQ ?_) | refine Zn ?_) | refine Za ?_ | (refine Zh ?_; refine Zu ?_) | (refine Zi ?_; refine Zv ?_) | intro _)
    refine Yt [(D0, .deferred (some []))] ?_
    exact te_end_d rfl rfl rfl inferInstance (res1 rfl (Zx rfl rfl)) hl2 tk (by infer_instance) (L' := YH lb rb (S.at Rq fq) v :: ownR S v sp :: (Xb rb db Rq w1 ++ ZZ db k1 Dq)) ⟨rfl, hl2, w1, k1, hR1, hD1, rfl⟩
def zRR : RR := (⟨⟨none, 0, 0⟩, ⟨none, 0, 0⟩, ⟨none, 0, 0⟩, ⟨none, 0, 0⟩⟩, ⟨0, 0, 0, 0, 0, [], [], 0, [], []⟩)
theorem rec16_nil (ρ : Hp) (lsn : Nat) : Spec Tryz.prog 10 [.pointer none, .int .u64 (lsn : Nat)] ρ [] (fun v ρ' L' => v = .tuple ⟨[.agg ⟨rrV zRR⟩, .int .i64 1]⟩ ∧ ρ' = ρ ∧ L' = []) := by
 refine Zd Tryz.func10 rfl rfl rfl fun u R => ?_
 simp only [Zo, List.cons_append, List.nil_append]
 repeat' (first | (refine Zg ?_; first | (refine Zf ?_; refine qQ ?_) | refine Zn ?_) | refine Za ?_ | (refine Zh ?_; refine Zu ?_) | (refine Zi ?_; refine Zv ?_) | intro _)
 exact qE ⟨rfl, rfl, rfl⟩
theorem fromL_len (S : LgS) (lsn : Nat) : (fromL S lsn).length ≤ S.recs.length := List.length_filter_le _ _
theorem recs16_nil (ρ : Hp) (lsn : Nat) : Spec Tryz.prog 14 [.pointer none, .int .u64 (lsn : Nat)] ρ [] (fun v ρ' L' => v = .slice none 0 0 ∧ ρ' = ρ ∧ L' = []) := by
 refine Zd Tryz.func14 rfl rfl rfl fun u R => ?_
 simp only [Zo, List.cons_append, List.nil_append]
 repeat' (first | (refine Zg ?_; first | (refine Zf ?_; refine qQ ?_) | refine Zn ?_) | refine Za ?_ | (refine Zh ?_; refine Zu ?_) | (refine Zi ?_; refine Zv ?_) | intro _)
 exact qE ⟨rfl, rfl, rfl⟩
theorem recs16_spec (ρ : Hp) (lb rb : Nat) (S : LgS) (v : Value) (sp : List Value) (h : LgIn ρ S v sp) (lsn : Nat) :
  Spec Tryz.prog 14 [.pointer (some ⟨lb, 0, none⟩), .int .u64 (lsn : Nat)] ρ [YH lb rb S v, ownR S v sp] (fun z ρ' L' => ρ.le ρ' ∧ ∃ sp', OwnS z (fromL S lsn).length (Xd (fromL S lsn)) sp' 10 ∧ L' = [YH lb rb S v, ownR S v sp, Yd z (Xd (fromL S lsn)) sp' 34]) := by
 have h1 := h.len
 have h2 := fromL_len S lsn
 refine Zd Tryz.func14 rfl rfl rfl fun u R => ?_
 simp only [Zo, List.cons_append, List.nil_append]
 repeat' (first | (refine Ze (.func 54) ?_; refine qC rfl rfl (from16_spec _ lb lsn) ?_; rintro v1 ρ1 L1 hle1 ⟨d1, d2, rfl, rfl, rfl⟩; simp only [List.cons_append, List.nil_append]) | (refine Zg ?_; first | (refine Zf ?_; refine qQ ?_) | refine Zn ?_) | refine Za ?_ | (refine Zh ?_; refine Zu ?_) | (refine Zi ?_; refine Zv ?_) | intro _)
 rename_i c5
 refine tc_rangeFuncP (S := [fb1 d1 lb, fb2 d2 lsn, ownR S v sp]) (L0 := [[(c5, .cells ⟨[.slice none 0 0]⟩ 40 (0, 0))], YH lb rb S v, Yd (.slice none 0 0) (Xd []) [] 34]) (R := R) (R0 := [(c5, .cells ⟨[.slice none 0 0]⟩ 40 (0, 0))] :: YH lb rb S v :: R) rfl rfl (from16_iter ρ1 lb rb d1 d2 lsn S v sp h) (Hp.le_refl _) (fun _ => rfl) rfl
   (fun pre ρ2 Lu => ρ1.le ρ2 ∧ ∃ z sp', OwnS z pre.length (Xd pre) sp' 10 ∧ Lu = [[(c5, .cells ⟨[z]⟩ 40 (0, 0))], YH lb rb S v, Yd z (Xd pre) sp' 34])
   (fun c ρ2 Lu => False) ?k1 ?k2 ⟨Hp.le_refl _, _, [], OwnS.nil 10, rfl⟩ ?hC ?round ?done ?stop
 case k1 => exact tk
 case k2 => exact XM ZU (XM ZU (XM rem_nil' take_nil'))
 case stop => rintro D0 c ρ2 Lu _ hf; exact hf.elim
 case hC =>
  rintro ρ2 Lu ⟨_, z, sp', _, rfl⟩
  exact ⟨[[(c5, .cells ⟨[z]⟩ 40 (0, 0))]], _, rfl⟩
 case round =>
  rintro l tm r pre y ρ2 Lu u R' hpre hl1 ⟨hl2, z, sp1, hown, rfl⟩ hr hrec
  simp only [envP, List.cons_append, List.nil_append]
  have hlen := hpre.length_le
  simp only [List.length_append, List.length_singleton] at hlen
  obtain ⟨za, zc, rfl, _⟩ := hown.slice
  repeat' (first | (refine Zg ?_; first | (refine Zf ?_; refine qQ ?_) | refine Zn ?_) | refine Za ?_ | (refine Zh ?_; refine Zu ?_) | (refine Zi ?_; refine Zv ?_) | intro _)
  refine Yt [(l, .loop r)] ?_
  refine te_begin rfl hr (fun r' hbz hrec' => ?_)
  repeat' (first | (refine Yg (css := [rrV y]) (sz := 10) rfl rfl rfl rfl (by simp) (by simp) rfl (fun bs => ?_); simp only [List.flatten_cons, List.flatten_nil, List.append_nil]) | (refine YM (ys := rrV y) (m := 1) (sz := 10) rfl rfl hown (hR := by repeat (first | exact ZU | apply ZX)) SrcV.lit rfl rfl (by decide) rfl (by omega) (by omega) rfl (fun v' sp' hown' => ?_); obtain ⟨a', cap', rfl, hvl⟩ := hown'.slice) | (refine Zg ?_; first | (refine Zf ?_; refine qQ ?_) | refine Zn ?_) | refine Za ?_ | (refine Zh ?_; refine Zu ?_) | (refine Zi ?_; refine Zv ?_) | intro _)
  rw [show Xd pre ++ rrV y = Xd (pre ++ [y]) by rw [flatL_add]; simp [Xd]] at hown' ⊢
  refine Yt [(l, .loop r')] ?_
  refine te_next (Lu := [[(c5, .cells ⟨[.slice a' (pre.length + 1) cap']⟩ 40 (0, 0))], YH lb rb S v, Yd (.slice a' (pre.length + 1) cap') (Xd (pre ++ [y])) sp' 34]) rfl (Hp.le_refl _) ⟨hrec'.tmps.trans hrec.tmps, hrec'.params.trans hrec.params, hrec'.assign.trans hrec.assign, hrec'.body.trans hrec.body⟩ tk tk inferInstance ?_
  exact ⟨hl2, _, sp', by simpa using hown', rfl⟩
 case done =>
  rintro D0 ρ2 Lu hl1 ⟨hl2, z, sp1, hown, rfl⟩
  simp only [List.cons_append, List.nil_append]
  obtain ⟨za, zc, rfl, _⟩ := hown.slice
  repeat' (first | (refine Zg ?_; first | (refine Zf ?_; refine qQ ?_) | refine Zn ?_) | refine Za ?_ | (refine Zh ?_; refine Zu ?_) | (refine Zi ?_; refine Zv ?_) | intro _)
  refine Yt [(D0, .deferred (some []))] ?_
  exact te_end_d rfl rfl rfl inferInstance (res1 rfl (ZQ rfl)) hl2 tk (by infer_instance) (L' := [YH lb rb S v, ownR S v sp, Yd (.slice za (fromL S lsn).length zc) (Xd (fromL S lsn)) sp1 34]) ⟨hl2, sp1, hown, rfl⟩
theorem read_nil (ρ : Hp) (i : Int) : Spec Tryz.prog 91 [.pointer none, .int .i64 i] ρ [] (fun v ρ' L' => v = .tuple ⟨[bv zblk, .int .i64 1]⟩ ∧ ρ' = ρ ∧ L' = []) := by
 have hz0 : (List.replicate 64 (Value.int .u8 0)).length = 64 := by rfl
 refine Zd Tryz.func91 rfl rfl rfl fun u R => ?_
 simp only [Zo, List.cons_append, List.nil_append, bv, ← zblk_cells]
 repeat' (first | (refine Ze (.func 137) ?_; refine qC rfl rfl (does_nil _ _ _ _) ?_; rintro v ρ' L' hle ⟨rfl, rfl, rfl⟩ <;> (try simp only [kM, kN, kO])) | (refine Zg ?_; first | (refine Zf ?_; refine qQ ?_) | refine Zn ?_) | refine Za ?_ | (refine Zh ?_; refine Zu ?_) | (refine Zi ?_; refine Zv ?_) | intro _)
 exact qE ⟨rfl, rfl, rfl⟩
theorem open_nil (ρ : Hp) : Spec Tryz.prog 46 [.pointer none] ρ [] (fun v ρ' L' => v = .tuple ⟨[.pointer none, .int .i64 1]⟩ ∧ ρ' = ρ ∧ L' = []) := by
 refine Zd Tryz.func46 rfl rfl rfl fun u R => ?_
 simp only [Zo, List.cons_append, List.nil_append]
 repeat' (first | (refine Zg ?_; first | (refine Zf ?_; refine qQ ?_) | refine Zn ?_) | refine Za ?_ | (refine Zh ?_; refine Zu ?_) | (refine Zi ?_; refine Zv ?_) | intro _)
 refine ZP [(0, _), (4, _)] (fun (ζ : (Nat)) => [(13, .int .i64 ζ), (2, .pointer none), (3, .int .i64 0)]) (fun (ζ : (Nat)) => ρ) (fun (ζ : (Nat)) => []) (fun (ζ : (Nat)) => ζ = 0) (fun (ζ : (Nat)) => 0) (0) (rfl) Zw Zw rfl tk ?_
 rintro j hI
 try simp only [List.cons_append, List.nil_append, List.append_assoc, List.append_eq] at hI ⊢
 try dsimp only at hI ⊢
 subst hI
 repeat' (first | (refine Ze (.func 91) ?_; refine qC rfl rfl (read_nil _ _) ?_; rintro v ρ' L' hle ⟨rfl, rfl, rfl⟩ <;> (try simp only [kM, kN, kO])) | (refine Zg ?_; first | (refine Zf ?_; refine qQ ?_) | refine Zn ?_) | refine Za ?_ | (refine Zh ?_; refine Zu ?_) | (refine Zi ?_; refine Zv ?_) | intro _)
 exact qE ⟨rfl, rfl, rfl⟩
structure EvV where
 kind : Int
 n : Int
 b : BSl
 note : BSl
 ka : Option Addr
 kn : Nat
 kp : Nat
 ks : List Bool
structure EvIn (ρ : Hp) (e : EvV) : Prop where
 n : -9223372036854775808 ≤ e.n ∧ e.n ≤ 9223372036854775807
 kind : -9223372036854775808 ≤ e.kind ∧ e.kind ≤ 9223372036854775807
 b : BIn ρ e.b
 bbg : e.b.n ≤ 9223372036854775807
 note : BIn ρ e.note
 nb : e.note.n ≤ 9223372036854775807
 ks : SIn ρ bb e.ka e.kn e.ks
 kc : e.kn ≤ e.kp
 kb : e.kn ≤ 9223372036854775807
theorem EvIn.mono {ρ ρ' : Hp} {e : EvV} (h : EvIn ρ e) (hle : ρ.le ρ') : EvIn ρ' e := ⟨h.n, h.kind, h.b.mono hle, h.bbg, h.note.mono hle, h.nb, h.ks.mono hle, h.kc, h.kb⟩
theorem Good.append2 {R : RgS} {D : DS} {b : Bs} (h : Good R D) (hb : b.length ≤ 8000) (hn : R.next < 1099511627776) (hfit : ZE b.length ≤ R.h.size - R.used) :
  ∃ D', R.append b D = (R.plus b, D', 0) ∧ Good (R.plus b) D' ∧ D'.secs.length = D.secs.length ∧ ∀ i, R.h.size + 2 ≤ i → img D' i = img D i := by
 have hsz := h.ro.ok.size
 have hlen := h.ro.len
 have hidx : ∀ p ∈ ZR R.h R.next b (R.h.place + R.used), p.1 < R.h.size + 2 := fun p hp => by
  obtain ⟨k, hk, rfl⟩ := partsL_mem.1 hp
  have := Nat.mod_lt (R.h.place + R.used + k) (show 0 < R.h.size by omega)
  dsimp only; omega
 obtain ⟨l0, l1, l2⟩ := Calm_lays (ZR R.h R.next b (R.h.place + R.used)) D h.calm (fun p hp => by have := hidx p hp; omega)
 have ha := (h.ro.append h.frs hb hfit hn).1 l0
 refine ⟨(DS.lays (ZR R.h R.next b (R.h.place + R.used)) D).1, ?_, ⟨ha.1, ha.2, l1⟩, Xe _ _, fun i hi => ?_⟩
 ·unfold RgS.append
  rw [h.ro.live, if_neg (by simp), if_neg (by omega), if_neg (by omega), if_pos l0, calm_pair l0]
  rfl
 ·rcases Xo h.ro.empty l2 D rfl i with e | ⟨p, hp, h1, _⟩
  ·exact e
  ·have := hidx p hp; omega
def lastF (f : Nat) : List RR → Nat
 | [] => f
 | x :: l => lastF x.2.lsn l
abbrev upTo (to : Nat) (l : List RR) : List RR := l.takeWhile (fun x => decide (x.2.lsn ≤ to))
theorem costN_ok {r : Rc} (h : Xa r = true) : costN r = ZE (XA r).length := by unfold costN; rw [if_pos h]; rfl
theorem flushL_good (to : Nat) : ∀ (l : List RR) (R : RgS) (D : DS) (f : Nat), Good R D → (∀ x ∈ l, Xa x.2 = true) → Yw l ≤ R.h.size - R.used → R.next + l.length ≤ 1099511627776 →
  ∃ R' D', XT to l R D f = (R', D', lastF f (upTo to l), 0) ∧ Good R' D' ∧ R'.h = R.h ∧ R'.ents = R.ents ++ (upTo to l).map (fun x => XA x.2) ∧ R'.used = R.used + Yw (upTo to l) ∧ D'.secs.length = D.secs.length ∧ ∀ i, R.h.size + 2 ≤ i → img D' i = img D i
 | [], R, D, f, g, _, _, _ => ⟨R, D, rfl, g, rfl, by simp, by simp [Yw], rfl, fun _ _ => rfl⟩
 | x :: l, R, D, f, g, hok, hu, hn => by
  have hx := hok x (by simp)
  have hc := costN_ok hx
  have hlen := recB_le (recOk_lay hx)
  simp only [Yw, List.map_cons, List.sum_cons] at hu
  simp only [List.length_cons] at hn
  unfold upTo
  rw [XT, List.takeWhile_cons]
  by_cases hto : to < x.2.lsn
  ·rw [if_pos hto, decide_eq_false (by omega)]
   exact ⟨R, D, rfl, g, rfl, by simp, by simp [Yw], rfl, fun _ _ => rfl⟩
  ·rw [if_neg hto, decide_eq_true (by omega)]
   obtain ⟨D', e, g', hl', hi'⟩ := g.append2 (b := XA x.2) (by omega) (by omega) (by omega)
   have hnx : (R.plus (XA x.2)).next = R.next + 1 := by simp [RgS.plus, RgS.next]; omega
   have hus : (R.plus (XA x.2)).used = R.used + ZE (XA x.2).length := rfl
   obtain ⟨R2, D2, e2, g2, h2, he2, hu2, hl2, hi2⟩ := flushL_good to l (R.plus (XA x.2)) D' x.2.lsn g' (fun y hy => hok y (by simp [hy])) (by rw [hus]; show _ ≤ R.h.size - _; unfold Yw; omega) (by rw [hnx]; omega)
   rw [e]
   dsimp only
   rw [if_pos rfl, e2]
   refine ⟨R2, D2, rfl, g2, h2, ?_, ?_, hl2.trans hl', fun i hi => (hi2 i hi).trans (hi' i hi)⟩
   ·rw [he2]; simp [RgS.plus, upTo]
   ·rw [hu2, hus, ← hc]; simp [Yw, upTo]; omega
def newLg (R : RgS) : LgS := ⟨R, 1, 0, 0, 1, []⟩
theorem newLg_in {ρ : Hp} {R : RgS} : LgIn ρ (newLg R) (.slice none 0 0) [] := ⟨OwnS.nil 10, by simp [newLg], by simp [newLg], by simp [newLg, Yw], by simp [newLg]⟩
theorem format16_nil (ρ : Hp) (size : Int) : Spec Tryz.prog 8 [.pointer none, .int .i64 size] ρ [] (fun v ρ' L' => v = .tuple ⟨[.pointer none, .int .i64 1]⟩ ∧ ρ' = ρ ∧ L' = []) := by
 refine Zd Tryz.func8 rfl rfl rfl fun u R => ?_
 simp only [Zo, List.cons_append, List.nil_append]
 repeat' (first | (refine Ze (.func 45) ?_; refine qC rfl rfl (format_nil _ _) ?_; rintro v ρ' L' hle ⟨rfl, rfl, rfl⟩ <;> (try simp only [kM, kN, kO])) | (refine Zg ?_; first | (refine Zf ?_; refine qQ ?_) | refine Zn ?_) | refine Za ?_ | (refine Zh ?_; refine Zu ?_) | (refine Zi ?_; refine Zv ?_) | intro _)
 exact qE ⟨rfl, rfl, rfl⟩
theorem open16_nil (ρ : Hp) : Spec Tryz.prog 9 [.pointer none] ρ [] (fun v ρ' L' => v = .tuple ⟨[.pointer none, .int .i64 1]⟩ ∧ ρ' = ρ ∧ L' = []) := by
 refine Zd Tryz.func9 rfl rfl rfl fun u R => ?_
 simp only [Zo, List.cons_append, List.nil_append]
 repeat' (first | (refine Ze (.func 46) ?_; refine qC rfl rfl (open_nil _) ?_; rintro v ρ' L' hle ⟨rfl, rfl, rfl⟩ <;> (try simp only [kM, kN, kO])) | (refine Zg ?_; first | (refine Zf ?_; refine qQ ?_) | refine Zn ?_) | refine Za ?_ | (refine Zh ?_; refine Zu ?_) | (refine Zi ?_; refine Zv ?_) | intro _)
 exact qE ⟨rfl, rfl, rfl⟩
theorem kformat16 (ρ : Hp) (n m : Nat) (hn0 : 4 ≤ n) (hn1 : n ≤ 1000) (hm : n + 2 ≤ m) (hm1 : m ≤ 2048) (db : Nat) (k : DK) (hk : DOk k (DS.new m)) :
  Spec Tryz.prog 8 [.pointer (some ⟨db, 0, none⟩), .int .i64 n] ρ (ZZ db k (DS.new m)) (fun v ρ' L' => ρ.le ρ' ∧ ∃ lb rb w k' D', v = .tuple ⟨[.pointer (some ⟨lb, 0, none⟩), .int .i64 0]⟩ ∧ DOk k' D' ∧ RIn ρ' ⟨ZJ n, [], 0, false⟩ w ∧ Good ⟨ZJ n, [], 0, false⟩ D' ∧ D'.secs.length = m ∧ L' = YH lb rb (newLg ⟨ZJ n, [], 0, false⟩) (.slice none 0 0) :: (Xb rb db ⟨ZJ n, [], 0, false⟩ w ++ ZZ db k' D')) := by
 obtain ⟨D', e, g⟩ := Good.format (D := DS.new m) (n := n) (new_okD (by omega) hm1) new_calm hn0 hn1 (by simp [DS.new, fresh]; omega) fresh_empty
 have hlen : D'.secs.length = m := by
  unfold XD at e
  split at e
  ·simp at e
  ·split at e
   ·split at e
    ·have := congrArg (fun x => x.2.1.secs.length) e
     dsimp only at this
     rw [← this, Xe, Xe]; simp [DS.new, fresh]
    ·simp at e
   ·simp at e
 have hf := format_spec ρ db k (DS.new m) hk n (by omega)
 rw [e] at hf
 refine Zd Tryz.func8 rfl rfl rfl fun u R => ?_
 simp only [Zo, List.cons_append, List.nil_append]
 repeat' (first | (refine Ze (.func 45) ?_; refine qC rfl rfl hf ?_; rintro v1 ρ1 L1 hle1 ⟨hl1, k1, hk1, rb, w, rfl, hr, rfl⟩; try simp only [List.cons_append, List.nil_append, List.append_assoc]) | (refine Zg ?_; first | (refine Zf ?_; refine qQ ?_) | refine Zn ?_) | refine Za ?_ | (refine Zh ?_; refine Zu ?_) | (refine Zi ?_; refine Zv ?_) | intro _)
 rename_i lb
 exact qE (L' := YH lb rb (newLg ⟨ZJ n, [], 0, false⟩) (.slice none 0 0) :: (Xb rb db ⟨ZJ n, [], 0, false⟩ w ++ ZZ db k1 D')) ⟨hl1, lb, rb, w, k1, D', rfl, hk1, hr, g, hlen, rfl⟩
def begR (lsn : Nat) (txn : Nat) : Rc := ⟨1, lsn, txn, 0, 0, [], [], 0, [], []⟩
abbrev begX (lsn txn : Nat) : RR := (zRR.1, begR lsn txn)
theorem begR_in {ρ : Hp} (lsn txn : Nat) : RcIn ρ zRR.1 (begR lsn txn) := ⟨AS.nil, by simp [begR], AS.nil, AS.nil, AS.nil, by simp [begR]⟩
theorem begR_ok {lsn txn : Nat} (h1 : 1 ≤ lsn) (h2 : lsn ≤ 1099511627776) (h3 : 1 ≤ txn) (h4 : txn ≤ 1073741824) : Xa (begR lsn txn) = true := by
 unfold Xa begR headOk askOk bareOk
 simp only [Bool.and_eq_true, decide_eq_true_eq]
 refine ⟨by omega, ⟨by omega, by omega, by omega, by omega, by omega, by simp; omega, by simp⟩, by simp, by simp⟩
theorem begR_len (lsn txn : Nat) : (XA (begR lsn txn)).length = 21 := by simp [XA, recHB, recTB, begR, Zk]
theorem begR_cost {lsn txn : Nat} (h : Xa (begR lsn txn) = true) : costN (begR lsn txn) = 1 := by
 rw [costN_ok h, begR_len]; rfl
abbrev wS0 : LgS := newLg ⟨ZJ 450, [], 0, false⟩
abbrev wS1 : LgS := wS0.more (begX 1 7)
theorem wk_b : Xa (begR 1 7) = true := begR_ok (by omega) (by omega) (by omega) (by omega)
theorem wk_a : appE wS0 (begR 1 7) 2 = 0 := by
 unfold appE
 rw [wk_b, begR_cost wk_b]; rfl
theorem wk_c : appE wS1 (begR 1 7) 2 = 2 := by
 unfold appE
 rw [wk_b]; rfl
theorem wk_u : Yw wS1.recs = 1 := by
 show Yw [begX 1 7] = 1
 simp [Yw, begR_cost wk_b]
theorem wk_f {D : DS} (g : Good ⟨ZJ 450, [], 0, false⟩ D) : ∃ R' D', wS1.flush 1 D = (wS1.at R' 1, D', 0) := by
 obtain ⟨R', D', e, _⟩ := flushL_good 1 [begX 1 7] ⟨ZJ 450, [], 0, false⟩ D 0 g (fun x hx => by rw [List.mem_singleton.1 hx]; exact wk_b) (by simp [Yw, begR_cost wk_b, ZJ]) (by simp [RgS.next, ZJ])
 refine ⟨R', D', ?_⟩
 unfold LgS.flush
 rw [if_neg (by decide)]
 rw [show fromL wS1 (wS1.fl + 1) = [begX 1 7] from rfl, show wS1.R = ⟨ZJ 450, [], 0, false⟩ from rfl, show wS1.fl = 0 from rfl, e]
 rfl
theorem LgIn.at {ρ S v sp} (h : LgIn ρ S v sp) (R : RgS) (f : Nat) : LgIn ρ (S.at R f) v sp := ⟨h.own, h.rin, h.ok, h.used, h.base⟩
theorem wakes16_spec (ρ : Hp) : Spec Tryz.prog 7 [] ρ [] (fun v ρ' L' => v = .bool true ∧ ρ.le ρ' ∧ L' = []) := by
 refine Zd Tryz.func7 rfl rfl rfl fun u R => ?_
 simp only [Zo, List.cons_append, List.nil_append]
 repeat' (first | (refine Ze (.func 44) ?_; refine qC rfl rfl (knew _ 452 (by omega) (by omega)) ?_; rintro v ρ' L' hle ⟨rfl, db, k0, rfl, hk0, rfl⟩ <;> (try simp only [kM, kN, kO])) | (refine Ze (.func 8) ?_; refine qC rfl rfl (kformat16 _ 450 452 (by omega) (by omega) (by omega) (by omega) db k0 hk0) ?_; rintro v1 ρ1 L1 hle1 ⟨hl1, lb, rb, w1, k1, D1, rfl, hk1, hr1, g1, _, rfl⟩; try simp only [List.cons_append, List.nil_append, List.append_assoc]) | (refine Zg ?_; first | (refine Zf ?_; refine qQ ?_) | refine Zn ?_) | refine Za ?_ | (refine Zh ?_; refine Zu ?_) | (refine Zi ?_; refine Zv ?_) | intro _)
 rename_i xb
 have hA := append16_yes ρ1 lb rb wS0 (.slice none 0 0) [] newLg_in (begX 1 7) (begR_in _ _) 2 wk_a
 obtain ⟨R', D', hfl⟩ := wk_f g1
 refine ZF (Zs _ _ ([[(xb, .cells ⟨rrV (begX 1 7)⟩ 34 (0, 0))]])) (ZC (hT := tk) (Hp.le_refl _)) ?_
 all_goals (refine rMv 0 ?_; refine rLd 1 ?_; refine rMv 3 ?_; refine rLd 4 ?_; refine rMv 6 ?_)
 all_goals (refine Zr (i := 2) ?_; ((try refine Zp ?_); (first | (refine Ze (.func 11) ?_; refine qC rfl rfl hA ?_; rintro v2 ρ2 L2 hle2 ⟨rfl, hl2, va2, sp2, hin2, rfl⟩; have hB := append16_no ρ2 lb rb wS1 va2 sp2 hin2 (begX 1 7) (begR_in _ _) 2 (by rw [wk_c]; omega); try simp only [List.cons_append, List.nil_append, List.append_assoc]) | (refine Ze (.func 11) ?_; refine qC rfl rfl hB ?_; rintro v3 ρ3 L3 hle3 ⟨rfl, hl3, rfl⟩; have hC := flush16_spec ρ3 lb rb db wS1 va2 sp2 (hin2.mono hl3) w1 ((hr1.mono hl2).mono hl3) k1 D1 hk1 1 (by decide); rw [hfl] at hC; try simp only [List.cons_append, List.nil_append, List.append_assoc]) | (refine Zn ?_; try intro _)) <;> ((try simp only [kM, kN, kO]); refine Za ?_; refine Zq ?_)))
 all_goals (refine Zr (i := 5) ?_; ((try refine Zp ?_); (first | (refine Ze (.func 11) ?_; refine qC rfl rfl hA ?_; rintro v2 ρ2 L2 hle2 ⟨rfl, hl2, va2, sp2, hin2, rfl⟩; have hB := append16_no ρ2 lb rb wS1 va2 sp2 hin2 (begX 1 7) (begR_in _ _) 2 (by rw [wk_c]; omega); try simp only [List.cons_append, List.nil_append, List.append_assoc]) | (refine Ze (.func 11) ?_; refine qC rfl rfl hB ?_; rintro v3 ρ3 L3 hle3 ⟨rfl, hl3, rfl⟩; have hC := flush16_spec ρ3 lb rb db wS1 va2 sp2 (hin2.mono hl3) w1 ((hr1.mono hl2).mono hl3) k1 D1 hk1 1 (by decide); rw [hfl] at hC; try simp only [List.cons_append, List.nil_append, List.append_assoc]) | (refine Zn ?_; try intro _)) <;> ((try simp only [kM, kN, kO]); refine Za ?_; refine Zq ?_)))
 all_goals (refine Zr (i := 7) ?_; ((try refine Zp ?_); (first | (refine Ze (.func 12) ?_; refine qC rfl rfl hC ?_; rintro v4 ρ4 L4 hle4 ⟨rfl, hl4, w4, k4, hr4, hk4, rfl⟩; have hin4 := (hin2.mono hl3).mono hl4; try simp only [List.cons_append, List.nil_append, List.append_assoc]) | (refine Zn ?_; try intro _)) <;> ((try simp only [kM, kN, kO]); refine Za ?_; refine Zq ?_)))
 all_goals (refine Ya ?_; refine rAs 8 ?_; refine rAs 9 ?_; refine rAs 10 ?_; refine ZO ?_)
 all_goals
  have hat := hin4.at R' 1
  have hN := next16_spec ρ4 lb rb (wS1.at R' 1) va2 sp2 hat
  have hF := flushed16_spec ρ4 lb rb (wS1.at R' 1) va2
  have hU := used16_spec ρ4 lb rb (wS1.at R' 1) va2
  have hQ := recs16_spec ρ4 lb rb (wS1.at R' 1) va2 sp2 hat 1
  rw [show Yw (wS1.at R' 1).recs = 1 from wk_u] at hU
  rw [show (wS1.at R' 1).next = 2 from rfl] at hN
  rw [show (wS1.at R' 1).fl = 1 from rfl] at hF
  rw [show fromL (wS1.at R' 1) 1 = [begX 1 7] from rfl] at hQ
  simp only [show (appE wS1 (begR 1 7) 2) = 2 from wk_c]
  repeat' (first | (refine Ze (.func 17) ?_; refine qC rfl rfl (hF) ?_; rintro v ρ' L' hle ⟨rfl, rfl, rfl⟩ <;> (try simp only [kM, kN, kO])) | (refine Ze (.func 16) ?_; refine qC rfl rfl (hN) ?_; rintro v ρ' L' hle ⟨rfl, rfl, rfl⟩ <;> (try simp only [kM, kN, kO])) | (refine Ze (.func 20) ?_; refine qC rfl rfl (hU) ?_; rintro v ρ' L' hle ⟨rfl, rfl, rfl⟩ <;> (try simp only [kM, kN, kO])) | (refine Ze (.func 14) ?_; refine qC rfl rfl hQ ?_; rintro v5 ρ5 L5 hle5 ⟨hl5, sp5, ho5, rfl⟩; obtain ⟨va5, vc5, rfl, _⟩ := ho5.slice; try simp only [List.cons_append, List.nil_append, List.append_assoc]) | (refine Zg ?_; first | (refine Zf ?_; refine qQ ?_) | refine Zn ?_) | refine Za ?_ | (refine Zh ?_; refine Zu ?_) | (refine Zi ?_; refine Zv ?_) | intro _)
  have hfin := Hp.le_trans hl1 (Hp.le_trans hl2 (Hp.le_trans hl3 (Hp.le_trans hl4 hl5)))
  exact qE (L' := []) ⟨rfl, hfin, rfl⟩
theorem append16_nil (ρ : Hp) (v : RV) (r : Rc) (h : RcIn ρ v r) (n : Int) : Spec Tryz.prog 11 [.pointer none, .agg ⟨Xq v r⟩, .int .i64 n] ρ [] (fun v ρ' L' => v = .int .i64 1 ∧ ρ' = ρ ∧ L' = []) := by
 refine Zd Tryz.func11 rfl rfl rfl fun u R => ?_
 simp only [Zo, List.cons_append, List.nil_append]
 repeat' (first | (refine Zg ?_; first | (refine Zf ?_; refine qQ ?_) | refine Zn ?_) | refine Za ?_ | (refine Zh ?_; refine Zu ?_) | (refine Zi ?_; refine Zv ?_) | intro _)
 exact qE ⟨rfl, rfl, rfl⟩
theorem trunc16_nil (ρ : Hp) (a b n : Int) : Spec Tryz.prog 13 [.pointer none, .int .u64 a, .int .u64 b, .int .i64 n] ρ [] (fun v ρ' L' => v = .int .i64 1 ∧ ρ' = ρ ∧ L' = []) := by
 refine Zd Tryz.func13 rfl rfl rfl fun u R => ?_
 simp only [Zo, List.cons_append, List.nil_append]
 repeat' (first | (refine Zg ?_; first | (refine Zf ?_; refine qQ ?_) | refine Zn ?_) | refine Za ?_ | (refine Zh ?_; refine Zu ?_) | (refine Zi ?_; refine Zv ?_) | intro _)
 exact qE ⟨rfl, rfl, rfl⟩
theorem nils16 (ρ : Hp) : Spec Tryz.prog 15 [.pointer none] ρ [] (fun v ρ' L' => v = .int .u64 0 ∧ ρ' = ρ ∧ L' = []) ∧ Spec Tryz.prog 17 [.pointer none] ρ [] (fun v ρ' L' => v = .int .u64 0 ∧ ρ' = ρ ∧ L' = []) ∧ Spec Tryz.prog 18 [.pointer none] ρ [] (fun v ρ' L' => v = .int .u64 0 ∧ ρ' = ρ ∧ L' = []) ∧ Spec Tryz.prog 19 [.pointer none] ρ [] (fun v ρ' L' => v = .int .i64 0 ∧ ρ' = ρ ∧ L' = []) ∧ Spec Tryz.prog 20 [.pointer none] ρ [] (fun v ρ' L' => v = .int .i64 0 ∧ ρ' = ρ ∧ L' = []) ∧ Spec Tryz.prog 21 [.pointer none] ρ [] (fun v ρ' L' => v = .bool false ∧ ρ' = ρ ∧ L' = []) := by
 refine ⟨?_, ?_, ?_, ?_, ?_, ?_⟩
 ·refine Zd Tryz.func15 rfl rfl rfl fun u R => ?_
  simp only [Zo, List.cons_append, List.nil_append]
  repeat' (first | (refine Zg ?_; first | (refine Zf ?_; refine qQ ?_) | refine Zn ?_) | refine Za ?_ | (refine Zh ?_; refine Zu ?_) | (refine Zi ?_; refine Zv ?_) | intro _)
  exact qE ⟨rfl, rfl, rfl⟩
 ·refine Zd Tryz.func17 rfl rfl rfl fun u R => ?_
  simp only [Zo, List.cons_append, List.nil_append]
  repeat' (first | (refine Zg ?_; first | (refine Zf ?_; refine qQ ?_) | refine Zn ?_) | refine Za ?_ | (refine Zh ?_; refine Zu ?_) | (refine Zi ?_; refine Zv ?_) | intro _)
  exact qE ⟨rfl, rfl, rfl⟩
 ·refine Zd Tryz.func18 rfl rfl rfl fun u R => ?_
  simp only [Zo, List.cons_append, List.nil_append]
  repeat' (first | (refine Zg ?_; first | (refine Zf ?_; refine qQ ?_) | refine Zn ?_) | refine Za ?_ | (refine Zh ?_; refine Zu ?_) | (refine Zi ?_; refine Zv ?_) | intro _)
  exact qE ⟨rfl, rfl, rfl⟩
 ·refine Zd Tryz.func19 rfl rfl rfl fun u R => ?_
  simp only [Zo, List.cons_append, List.nil_append]
  repeat' (first | (refine Zg ?_; first | (refine Zf ?_; refine qQ ?_) | refine Zn ?_) | refine Za ?_ | (refine Zh ?_; refine Zu ?_) | (refine Zi ?_; refine Zv ?_) | intro _)
  exact qE ⟨rfl, rfl, rfl⟩
 ·refine Zd Tryz.func20 rfl rfl rfl fun u R => ?_
  simp only [Zo, List.cons_append, List.nil_append]
  repeat' (first | (refine Zg ?_; first | (refine Zf ?_; refine qQ ?_) | refine Zn ?_) | refine Za ?_ | (refine Zh ?_; refine Zu ?_) | (refine Zi ?_; refine Zv ?_) | intro _)
  exact qE ⟨rfl, rfl, rfl⟩
 ·refine Zd Tryz.func21 rfl rfl rfl fun u R => ?_
  simp only [Zo, List.cons_append, List.nil_append]
  repeat' (first | (refine Zg ?_; first | (refine Zf ?_; refine qQ ?_) | refine Zn ?_) | refine Za ?_ | (refine Zh ?_; refine Zu ?_) | (refine Zi ?_; refine Zv ?_) | intro _)
  exact qE ⟨rfl, rfl, rfl⟩
theorem logNils_spec (ρ : Hp) (to : Nat) (n : Int) : Spec Tryz.prog 3 [.int .u64 (to : Nat), .int .i64 n] ρ [] (fun v ρ' L' => v = .bool true ∧ ρ.le ρ' ∧ L' = []) := by
 have hn := fun ρ => nils16 ρ
 have hz : ∀ ρ, RcIn ρ zRR.1 zRR.2 := fun ρ => ⟨AS.nil, by simp [zRR], AS.nil, AS.nil, AS.nil, by simp [zRR]⟩
 have hap := fun ρ => append16_nil ρ zRR.1 zRR.2 (hz ρ) n
 refine Zd Tryz.func3 rfl rfl rfl fun u R => ?_
 simp only [Zo, List.cons_append, List.nil_append]
 repeat' (first | (refine Ze (.func 7) ?_; refine qC rfl rfl (wakes16_spec _) ?_; rintro v ρ' L' hle ⟨rfl, hl1, rfl⟩ <;> (try simp only [kM, kN, kO])) | (refine Ze (.func 8) ?_; refine qC rfl rfl (format16_nil _ _) ?_; rintro v ρ' L' hle ⟨rfl, rfl, rfl⟩ <;> (try simp only [kM, kN, kO])) | (refine Ze (.func 9) ?_; refine qC rfl rfl (open16_nil _) ?_; rintro v ρ' L' hle ⟨rfl, rfl, rfl⟩ <;> (try simp only [kM, kN, kO])) | (refine Ze (.func 10) ?_; refine qC rfl rfl (rec16_nil _ _) ?_; rintro v ρ' L' hle ⟨rfl, rfl, rfl⟩ <;> (try simp only [kM, kN, kO])) | (refine Ze (.func 11) ?_; refine qC rfl rfl (hap _) ?_; rintro v ρ' L' hle ⟨rfl, rfl, rfl⟩ <;> (try simp only [kM, kN, kO])) | (refine Ze (.func 12) ?_; refine qC rfl rfl (flush16_nil _ _) ?_; rintro v ρ' L' hle ⟨rfl, rfl, rfl⟩ <;> (try simp only [kM, kN, kO])) | (refine Ze (.func 13) ?_; refine qC rfl rfl (trunc16_nil _ _ _ _) ?_; rintro v ρ' L' hle ⟨rfl, rfl, rfl⟩ <;> (try simp only [kM, kN, kO])) | (refine Ze (.func 14) ?_; refine qC rfl rfl (recs16_nil _ _) ?_; rintro v ρ' L' hle ⟨rfl, rfl, rfl⟩ <;> (try simp only [kM, kN, kO])) | (refine Ze (.func 15) ?_; refine qC rfl rfl ((hn _).1) ?_; rintro v ρ' L' hle ⟨rfl, rfl, rfl⟩ <;> (try simp only [kM, kN, kO])) | (refine Ze (.func 16) ?_; refine qC rfl rfl (next16_nil _) ?_; rintro v ρ' L' hle ⟨rfl, rfl, rfl⟩ <;> (try simp only [kM, kN, kO])) | (refine Ze (.func 17) ?_; refine qC rfl rfl ((hn _).2.1) ?_; rintro v ρ' L' hle ⟨rfl, rfl, rfl⟩ <;> (try simp only [kM, kN, kO])) | (refine Ze (.func 18) ?_; refine qC rfl rfl ((hn _).2.2.1) ?_; rintro v ρ' L' hle ⟨rfl, rfl, rfl⟩ <;> (try simp only [kM, kN, kO])) | (refine Ze (.func 19) ?_; refine qC rfl rfl ((hn _).2.2.2.1) ?_; rintro v ρ' L' hle ⟨rfl, rfl, rfl⟩ <;> (try simp only [kM, kN, kO])) | (refine Ze (.func 20) ?_; refine qC rfl rfl ((hn _).2.2.2.2.1) ?_; rintro v ρ' L' hle ⟨rfl, rfl, rfl⟩ <;> (try simp only [kM, kN, kO])) | (refine Ze (.func 21) ?_; refine qC rfl rfl ((hn _).2.2.2.2.2) ?_; rintro v ρ' L' hle ⟨rfl, rfl, rfl⟩ <;> (try simp only [kM, kN, kO])) | (refine Zg ?_; first | (refine Zf ?_; refine qQ ?_) | refine Zn ?_) | refine Za ?_ | (refine Zh ?_; refine Zu ?_) | (refine Zi ?_; refine Zv ?_) | intro _)
 exact qE (L' := []) ⟨rfl, hl1, rfl⟩
end Go.Proofs.E
