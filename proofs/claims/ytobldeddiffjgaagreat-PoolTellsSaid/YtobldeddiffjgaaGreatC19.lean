/- The law PoolTells. Part 19 of 20. -/
import Derived.Test.YtobldeddiffjgaaGreatC18
namespace Go.Proofs.E
open Go
set_option linter.unusedVariables false
set_option linter.unusedSimpArgs false
set_option linter.unusedSectionVars false
set_option maxRecDepth 4000
set_option maxHeartbeats 1000000
attribute [local irreducible] Yl TL TC TE Spec XU R1 Hp.le EnvLe TS TR YS Zr
theorem u64_mod17 (a m : Int) (h0 : 0 < m) (h1 : m ≤ 1000000) : ∃ q : Nat, (IntKind.u64.wrap a).tmod m = q ∧ (q : Int) < m := by
 have h2 := (u64_nn17 a).1
 have h3 : (IntKind.u64.wrap a).tmod m = (IntKind.u64.wrap a) % m := Int.tmod_eq_emod_of_nonneg h2
 have h4 := Int.emod_nonneg (IntKind.u64.wrap a) (show m ≠ 0 by omega)
 have h5 := Int.emod_lt_of_pos (IntKind.u64.wrap a) h0
 exact ⟨((IntKind.u64.wrap a) % m).toNat, by rw [h3]; omega, by omega⟩
structure LaIn (ρ : Hp) (es : List MapEntry) (la : Int → Option (CV × Yb)) : Prop where
 keys : Yg .i64 es
 get : ∀ n, YE es n = (la n).map (fun x => .agg ⟨XF x.2.kind x.1⟩)
 cin : ∀ n x, la n = some x → CIn ρ x.1 x.2.rows x.2.kids
theorem LaIn.mono {ρ ρ' es la} (h : LaIn ρ es la) (hle : ρ.le ρ') : LaIn ρ' es la := ⟨h.keys, h.get, fun n x hx => (h.cin n x hx).mono hle⟩
def laV (la : Int → Option (CV × Yb)) : LaF := fun n => (la n).map (·.2)
def setL17 (la : Int → Option (CV × Yb)) (n : Int) (x : CV × Yb) : Int → Option (CV × Yb) := fun k => if k = n then some x else la k
theorem laV_set (la : Int → Option (CV × Yb)) (n : Int) (x : CV × Yb) : laV (setL17 la n x) = setA (laV la) n x.2 := by
 funext k; unfold laV setL17 setA; split <;> simp
theorem LaIn.put {ρ es es' la} (h : LaIn ρ es la) {n : Int} {x : CV × Yb} (hk : Yg .i64 es') (hg : ∀ j, YE es' j = if j = n then some (.agg ⟨XF x.2.kind x.1⟩) else YE es j) (hc : CIn ρ x.1 x.2.rows x.2.kids) : LaIn ρ es' (setL17 la n x) :=
 ⟨hk, fun j => by
  rw [hg]; unfold setL17
  split
  ·rfl
  ·exact h.get j, fun j y hy => by
  unfold setL17 at hy
  split at hy
  ·cases hy; exact hc
  ·exact h.cin j y hy⟩
structure PT (ρ : Hp) (m fl t : Nat) (R : RgS) (w : RW) (D : DS) (k : DK) (held : Nat → Xc) (pg : Pgs) (es : List MapEntry) (va : Value) (sp : List Value) (la : Int → Option (CV × Yb)) (e5 : List MapEntry) : Prop where
 st : StoK R fl m D t held
 lg : LgIn ρ (pS R fl m) va sp
 rg : RIn ρ R w
 dk : DOk k D
 mp : MpIn ρ es pg
 lain : LaIn ρ e5 la
 tl : Tl m (vw pg) held (laV la)
theorem LaIn.zero {ρ : Hp} : LaIn ρ [] (fun _ => none) := ⟨(by intro e he; cases he), fun _ => rfl, (by intro n x hx; cases hx)⟩
theorem Tl.ask {m : Nat} {pv : PV} {held : Nat → Xc} {la : LaF} (h : Tl m pv held la) (known : Bool) (l : List Sh) : Tl m (askV known held pv l) held la := by
 unfold askV
 split
 ·exact h
 ·split
  ·exact h
  ·rename_i h1
   split
   ·exact h
   ·exact h.holds l (riseS_pages (by simpa using h1))
theorem Tl.chg {m : Nat} {pv : PV} {held : Nat → Xc} {la : LaF} (h : Tl m pv held la) {known : Bool} {lsn : Nat} {l : List Sh} (hk : known = decide (1 ≤ lsn ∧ lsn ≤ m)) (hE : askE known held pv lsn l = 0) (hf : ∀ s ∈ l, IdFit s.c) : Tl m (chgV known held pv lsn l) held (setsA la l) := by
 obtain ⟨h1, h2, h3, h4, h5⟩ := askE_zero hE
 rw [hk] at h1
 have h1 := of_decide_eq_true h1
 unfold chgV
 rw [if_pos hE, h4]
 refine Tl.chgs h1.2 l (h.holds l (riseS_pages h2)) h2 (fun s hs => ⟨(List.all_eq_true.1 h3) s hs, hf s hs⟩) (fun s hs => ?_)
 have h6 := holdsV_mem held l pv s hs
 obtain ⟨x, hx⟩ := Option.isSome_iff_exists.1 h6
 refine ⟨x, hx, ?_⟩
 have h7 := h5 s hs
 unfold XY at h7
 rw [hx] at h7
 exact h7
theorem stealE_cases (pg : Pgs) (n : Int) : stealE pg n = 0 ∨ stealE pg n = 2 ∨ stealE pg n = 4 := by
 unfold stealE
 split
 ·cases pg n with
  | none => exact .inr (.inr rfl)
  | some _ => exact .inl rfl
 ·exact .inr (.inl rfl)
theorem Tl.evictG {m : Nat} {pg : Pgs} {held : Nat → Xc} {la : LaF} (h : Tl m (vw pg) held la) (n : Int) : Tl m (vw (evictG pg n)) held la := by
 unfold E.evictG
 by_cases hE : WM pg n = 0
 ·rw [if_pos hE, vw_del]
  unfold WM at hE
  by_cases hn : 0 ≤ n ∧ n < 64
  ·rw [if_pos hn] at hE
   cases hp : pg n with
   | none => rw [hp] at hE; simp at hE
   | some g =>
    rw [hp] at hE
    by_cases h0 : g.rc = 0
    ·exact h.evict (x := (g.c, g.lsn, g.rc)) (by unfold vw; rw [hp]; rfl) h0
    ·simp [h0] at hE
  ·rw [if_neg hn] at hE; omega
 ·rw [if_neg hE]; exact h
structure DiM (es : List MapEntry) (l : List CkP) : Prop where
 keys : Yg .i64 es
 yes : ∀ n, (∃ p ∈ l, p.page = n) → YE es n = some (.bool true)
 no : ∀ n, (¬ ∃ p ∈ l, p.page = n) → YE es n = none
theorem DiM.zero : DiM [] [] := ⟨(by intro e he; cases he), (by rintro n ⟨p, hp, _⟩; cases hp), fun _ _ => rfl⟩
theorem DiM.add {es es' : List MapEntry} {l : List CkP} (h : DiM es l) {p : CkP} (hk : Yg .i64 es') (hg : ∀ j, YE es' j = if j = p.page then some (.bool true) else YE es j) : DiM es' (l ++ [p]) :=
 ⟨hk, fun n hn => by
  rw [hg]
  split
  ·rfl
  ·rename_i hne
   obtain ⟨q, hq, hqn⟩ := hn
   rcases List.mem_append.1 hq with hq | hq
   ·exact h.yes n ⟨q, hq, hqn⟩
   ·rw [List.mem_singleton.1 hq] at hqn; exact absurd hqn.symm hne, fun n hn => by
  rw [hg, if_neg (fun e => hn ⟨p, by simp, e.symm⟩)]
  exact h.no n (fun ⟨q, hq, hqn⟩ => hn ⟨q, by simp [hq], hqn⟩)⟩
theorem holdV_dirty {held : Nat → Xc} {pv : PV} {k : Nat} {n : Int} : (∃ x, holdV held pv k n = some x ∧ x.2.2 ≠ 0) ↔ ∃ x, pv n = some x ∧ x.2.2 ≠ 0 := by
 unfold holdV setV
 split
 ·rename_i e
  subst e
  unfold XY
  cases hp : pv (k : Nat) with
  | none => simp
  | some x => simp
 ·exact Iff.rfl
abbrev poL (mb lb rb db m fl : Nat) (R : RgS) (w : RW) (D : DS) (k : DK) (es : List MapEntry) (ck : Nat) (va : Value) (sp : List Value) : SH := YD mb es ck :: YB lb rb (pS R fl m) va :: Xf (pS R fl m) va sp :: (Xe rb db R w ++ ZA db k D)
theorem tells17_spec (ρ : Hp) (a : Option Addr) (n c : Nat) (ops : List OpV) (hops : AIn ρ 4 opC a n ops) (hin : ∀ e ∈ ops, OpIn ρ e) (hbig : n ≤ 9223372036854775807) :
  Spec Tryz.prog 4 [.slice a n c] ρ [] (fun v ρ' L' => v = .bool true ∧ ρ.le ρ' ∧ L' = []) := by
 have hln := hops.len
 refine Ze Tryz.func4 rfl rfl rfl fun u R => ?_
 simp only [Zt, List.cons_append, List.nil_append]
 repeat' (first | (refine Zc (.func 22) ?_; refine qC rfl rfl (wakes17_spec _) ?_; rintro v ρ' L' hle ⟨rfl, hl1, rfl⟩ <;> (try simp only [kM, kN, kO])) | (refine Zc (.func 23) ?_; refine qC rfl rfl (begun17_spec _) ?_; rintro v2 ρ2 L2 hle2 ⟨hl2, xb, db, fb, lb, rb, pb, mb, w1, k1, R1, D1, rfl, hx2, hp2, hf2, hr2, hk2, st2, rfl⟩; try simp only [List.cons_append, List.nil_append, List.append_assoc, List.append_eq]) | (refine iBu ?_; refine ZL (Zn rfl) rfl rfl ?_) | (refine Zg ?_; first | (refine Zf ?_; refine qQ ?_) | refine Zj ?_) | refine Za ?_ | (refine Zh ?_; refine Zu ?_) | (refine Zi ?_; refine Zv ?_) | intro _)
 rename_i b5
 have hl02 := Hp.le_trans hl1 hl2
 refine ZH [(3, _), (5, _), (29, _), (30, _)] (fun (ζ : (Nat) × (Hp) × (Nat) × (Nat) × (Nat) × (RgS) × (RW) × (DS) × (DK) × (Nat → Xc) × (Pgs) × (List MapEntry) × (Nat) × (Value) × (List Value) × (Int → Option (CV × Yb)) × (List MapEntry) × (Nat)) => [(31, .int .i64 ζ.1), (2, .bool false)]) (fun (ζ : (Nat) × (Hp) × (Nat) × (Nat) × (Nat) × (RgS) × (RW) × (DS) × (DK) × (Nat → Xc) × (Pgs) × (List MapEntry) × (Nat) × (Value) × (List Value) × (Int → Option (CV × Yb)) × (List MapEntry) × (Nat)) => ζ.2.1) (fun (ζ : (Nat) × (Hp) × (Nat) × (Nat) × (Nat) × (RgS) × (RW) × (DS) × (DK) × (Nat → Xc) × (Pgs) × (List MapEntry) × (Nat) × (Value) × (List Value) × (Int → Option (CV × Yb)) × (List MapEntry) × (Nat)) => [(b5, .map ⟨ζ.2.2.2.2.2.2.2.2.2.2.2.2.2.2.2.2.1⟩ ζ.2.2.2.2.2.2.2.2.2.2.2.2.2.2.2.2.2)] :: poL mb lb rb db ζ.2.2.1 ζ.2.2.2.1 ζ.2.2.2.2.2.1 ζ.2.2.2.2.2.2.1 ζ.2.2.2.2.2.2.2.1 ζ.2.2.2.2.2.2.2.2.1 ζ.2.2.2.2.2.2.2.2.2.2.2.1 ζ.2.2.2.2.2.2.2.2.2.2.2.2.1 ζ.2.2.2.2.2.2.2.2.2.2.2.2.2.1 ζ.2.2.2.2.2.2.2.2.2.2.2.2.2.2.1) (fun (ζ : (Nat) × (Hp) × (Nat) × (Nat) × (Nat) × (RgS) × (RW) × (DS) × (DK) × (Nat → Xc) × (Pgs) × (List MapEntry) × (Nat) × (Value) × (List Value) × (Int → Option (CV × Yb)) × (List MapEntry) × (Nat)) => ζ.1 ≤ n ∧ ζ.1 ≤ 40 ∧ ζ.2.2.1 ≤ ζ.1 ∧ ζ.2.2.2.2.1 ≤ ζ.1 ∧ ρ2.le ζ.2.1 ∧ PT ζ.2.1 ζ.2.2.1 ζ.2.2.2.1 ζ.2.2.2.2.1 ζ.2.2.2.2.2.1 ζ.2.2.2.2.2.2.1 ζ.2.2.2.2.2.2.2.1 ζ.2.2.2.2.2.2.2.2.1 ζ.2.2.2.2.2.2.2.2.2.1 ζ.2.2.2.2.2.2.2.2.2.2.1 ζ.2.2.2.2.2.2.2.2.2.2.2.1 ζ.2.2.2.2.2.2.2.2.2.2.2.2.2.1 ζ.2.2.2.2.2.2.2.2.2.2.2.2.2.2.1 ζ.2.2.2.2.2.2.2.2.2.2.2.2.2.2.2.1 ζ.2.2.2.2.2.2.2.2.2.2.2.2.2.2.2.2.1) (fun (ζ : (Nat) × (Hp) × (Nat) × (Nat) × (Nat) × (RgS) × (RW) × (DS) × (DK) × (Nat → Xc) × (Pgs) × (List MapEntry) × (Nat) × (Value) × (List Value) × (Int → Option (CV × Yb)) × (List MapEntry) × (Nat)) => n - ζ.1) ((0, ρ2, 0, 0, 0, R1, w1, D1, k1, (fun _ => zHeld), pg0, [], 0, .slice none 0 0, [], (fun _ => none), [], 0)) (⟨Nat.zero_le _, Nat.zero_le _, Nat.le_refl _, Nat.le_refl _, Hp.le_refl _, ⟨st2, pS_in _, hr2, hk2, mp0, LaIn.zero, Tl.zero⟩⟩) Zo Zo rfl tk ?_
 rintro ⟨i, ρa, mm, ff, tt, Ra, wa, Da, ka, hd, pgs, es, ck, va, sp, la, e5, c5⟩ hI
 try simp only [List.cons_append, List.nil_append, List.append_assoc, List.append_eq] at hI ⊢
 try dsimp only at hI ⊢
 obtain ⟨hi, hi40, hmi, hti, hla, hPT⟩ := hI
 have hst := hPT.st
 by_cases hgo : i < n ∧ i ≠ 40
 ·have hi41 : ¬ ((i : Nat) : Int) = 40 := by omega
  have hil : i < ops.length := by omega
  have hl0a := Hp.le_trans hl02 hla
  obtain ⟨b, off, C, T, fr, e1, hb0, hfit, hc⟩ := (hops.mono hl0a).get hil
  have he := (hin _ (List.getElem_mem hil)).mono hl0a
  rw [e1]
  generalize ops[i] = e at *
  obtain ⟨q, hq, hq4⟩ := u64_mod17 e.kind 4 (by omega) (by omega)
  repeat' (first | (refine Zc (.func 24) ?_; refine qC rfl rfl (few17_spec _ e he) ?_; rintro v ρ' L' hle ⟨hl3, a3, n3, c3, l3, rfl, hs3, hid3, rfl⟩ <;> (try simp only [kM, kN, kO])) | (refine iBu ?_; refine ZL (Zn rfl) rfl rfl ?_) | (refine Zg ?_; first | (refine Zf ?_; refine qQ ?_) | refine Zj ?_) | refine Za ?_ | (refine Zh ?_; refine Zu ?_) | (refine Zi ?_; refine Zv ?_) | intro _)
  rename_i b7
  rw [hq]
  have hl13 := Hp.le_trans hla hl3
  have hx3 := Hp.at' hl13 hx2
  have hp3 := Hp.at' hl13 hp2
  have hf3 := hf2.mono hl13
  have hlg3 := hPT.lg.mono hl3
  have hrg3 := hPT.rg.mono hl3
  have hmp3 := hPT.mp.mono hl3
  have hlai3 := hPT.lain.mono hl3
  rcases (show q = 0 ∨ q = 1 ∨ q = 2 ∨ q = 3 by omega) with rfl | rfl | rfl | rfl
  ·repeat' (first | (refine Zc (.func 25) ?_; refine qC rfl rfl (appends17_spec _ xb db fb lb rb pb hx3 Ra ff mm (by omega) va sp hlg3) ?_; rintro v ρ' L' hle ⟨rfl, hl4, va4, sp4, hin4, rfl⟩ <;> (try simp only [kM, kN, kO])) | (refine iBu ?_; refine ZL (Zn rfl) rfl rfl ?_) | (refine Zg ?_; first | (refine Zf ?_; refine qQ ?_) | refine Zj ?_) | refine Za ?_ | (refine Zh ?_; refine Zu ?_) | (refine Zi ?_; refine Zv ?_) | intro _)
   rw [← e1]
   have hm1 : mm + 1 ≤ i + 1 := by omega
   have ht1 : tt ≤ i + 1 := by omega
   have hPT1 : PT ρ' (mm + 1) ff tt Ra wa Da ka hd pgs es va4 sp4 la e5 := ⟨hst.more (by omega), hin4, hrg3.mono hl4, hPT.dk, hmp3.mono hl4, hlai3.mono hl4, hPT.tl.mono (by omega)⟩
   refine Zx (i + 1, ρ', mm + 1, ff, tt, Ra, wa, Da, ka, hd, pgs, es, ck, va4, sp4, la, e5, c5) (⟨hgo.1, by omega, hm1, ht1, Hp.le_trans hl13 hl4, hPT1⟩) Zo Zo rfl tk inferInstance (by first | omega | (dsimp only; omega))
  ·rw [show (((1 : Nat) : Int) == 0) = false from rfl]
   repeat' (first | (refine iBu ?_; refine ZL (Zn rfl) rfl rfl ?_) | (refine Zg ?_; first | (refine Zf ?_; refine qQ ?_) | refine Zj ?_) | refine Za ?_ | (refine Zh ?_; refine Zu ?_) | (refine Zi ?_; refine Zv ?_) | intro _)
   have hN := fun ρ h => next16_spec ρ lb rb (pS Ra ff mm) va sp h
   rw [pS_next] at hN
   refine Zz (Zr _ _ ([[(b7, .cells ⟨[.int .i64 e.kind, .int .i64 e.page, .int .i64 e.at', .slice a3 n3 c3]⟩ 52 (0, 0))]])) (Zy (hT := tk) (Hp.le_refl _)) ?_
   all_goals (refine ZO 0 ?_; refine rNc 1 ?_; refine Yv 2 ?_; refine ZX 3 ?_; refine ZX 4 ?_; refine ZO 5 ?_; refine rNc 6 ?_; refine Yv 7 ?_; refine ZX 8 ?_; refine Yv 11 ?_; refine ZX 12 ?_)
   all_goals (refine Zm (i := 9) ?_; ((try refine Zk ?_); (first | (refine Zc (.func 16) ?_; refine qC rfl rfl (hN _ hlg3) ?_; rintro v ρ' L' hle ⟨rfl, rfl, rfl⟩ <;> (try simp only [kM, kN, kO])) | (refine Zj ?_; try intro _)) <;> ((try simp only [kM, kN, kO]); refine Za ?_; refine Zl ?_)))
   all_goals (refine Zm (i := 10) ?_; ((try refine Zk ?_); (first | (refine Zc (.func 27) ?_; refine qC rfl rfl (at17_spec _ _ e.kind e.page e.at' a3 n3 c3 rfl (mm + 1) (by omega)) ?_; rintro v ρ' L' hle ⟨⟨lsn, rfl, hlsn⟩, rfl, rfl⟩ <;> (try simp only [kM, kN, kO])) | (refine Zj ?_; try intro _)) <;> ((try simp only [kM, kN, kO]); refine Za ?_; refine Zl ?_)))
   all_goals (refine Zm (i := 13) ?_; ((try refine Zk ?_); (first | (refine Zc (.func 26) ?_; refine qC rfl rfl (change17_spec _ pb fb lb mb rb db 902 tt hp3 hf3 (by omega) (pS Ra ff mm) va sp hlg3 ka Da hPT.dk pgs es ck hmp3 hd hst.fo hst.good.calm.lv lsn a3 n3 c3 l3 hs3) ?_; rintro v6 ρ6 L6 hle6 ⟨rfl, hl6, es6, ck6, pg6, D6, hm6, hv6, hk6, hL6, hF6, rfl⟩; try simp only [List.cons_append, List.nil_append, List.append_assoc, List.append_eq]) | (refine Zj ?_; try intro _)) <;> ((try simp only [kM, kN, kO]); refine Za ?_; refine Zl ?_)))
   all_goals (refine ZN ?_; refine rCm 14 ?_; refine ZI ?_)
   all_goals (repeat' (first | (refine iBu ?_; refine ZL (Zn rfl) rfl rfl ?_) | (refine Zg ?_; first | (refine Zf ?_; refine qQ ?_) | refine Zj ?_) | refine Za ?_ | (refine Zh ?_; refine Zu ?_) | (refine Zi ?_; refine Zv ?_) | intro _))
   all_goals
    have hfo6 := hst.lv hL6 hF6
    have hlg6 := hlg3.mono hl6
    have hrg6 := hrg3.mono hl6
    have hla6 := hlai3.mono hl6
    have hl16 := Hp.le_trans hl13 hl6
    have hm1 : mm ≤ i + 1 := by omega
    have ht1 : tt ≤ i + 1 := by omega
    have hrk : (recF (pS Ra ff mm) lsn).isSome = decide (1 ≤ lsn ∧ lsn ≤ mm) := pS_rec Ra ff mm lsn
    have htA := hPT.tl.ask (recF (pS Ra ff mm) lsn).isSome l3
    have htC := fun hE => hPT.tl.chg (lsn := lsn) hrk hE hid3
    have hch : chgV (recF (pS Ra ff mm) lsn).isSome hd (vw pgs) lsn l3 = if askE (recF (pS Ra ff mm) lsn).isSome hd (vw pgs) lsn l3 = 0 then chgsV lsn (askV (recF (pS Ra ff mm) lsn).isSome hd (vw pgs) l3) l3 else askV (recF (pS Ra ff mm) lsn).isSome hd (vw pgs) l3 := rfl
    rw [← hv6] at htC hch
    generalize askE (recF (pS Ra ff mm) lsn).isSome hd (vw pgs) lsn l3 = E at *
    by_cases hE : E = 0
    ·subst hE
     have htC := htC rfl
     rw [show ((0 : Int) == 0) = true from rfl]
     have hsl := hs3.at'.len
     have hb3 := hs3.big
     repeat' (first | (refine iBu ?_; refine ZL (Zn rfl) rfl rfl ?_) | (refine Zg ?_; first | (refine Zf ?_; refine qQ ?_) | refine Zj ?_) | refine Za ?_ | (refine Zh ?_; refine Zu ?_) | (refine Zi ?_; refine Zv ?_) | intro _)
     refine ZH [(2, _), (3, _), (5, _), (7, _), (29, _), (30, _), (31, _), (67, _), (68, _)] (fun (ζ : (Nat) × (Int → Option (CV × Yb)) × (List MapEntry) × (Nat)) => [(69, .int .i64 ζ.1)]) (fun (ζ : (Nat) × (Int → Option (CV × Yb)) × (List MapEntry) × (Nat)) => ρ6) (fun (ζ : (Nat) × (Int → Option (CV × Yb)) × (List MapEntry) × (Nat)) => [(b5, .map ⟨ζ.2.2.1⟩ ζ.2.2.2)] :: poL mb lb rb db mm ff Ra wa D6 ka es6 ck6 va sp) (fun (ζ : (Nat) × (Int → Option (CV × Yb)) × (List MapEntry) × (Nat)) => ζ.1 ≤ n3 ∧ LaIn ρ6 ζ.2.2.1 ζ.2.1 ∧ laV ζ.2.1 = setsA (laV la) (l3.take ζ.1)) (fun (ζ : (Nat) × (Int → Option (CV × Yb)) × (List MapEntry) × (Nat)) => n3 - ζ.1) ((0, la, e5, c5)) (⟨Nat.zero_le _, hla6, rfl⟩) Zo Zo rfl tk ?_
     rintro ⟨jj, lb2, e52, c52⟩ hI
     try simp only [List.cons_append, List.nil_append, List.append_assoc, List.append_eq] at hI ⊢
     try dsimp only at hI ⊢
     obtain ⟨hjj, hlb, hlv⟩ := hI
     by_cases hlt : jj < n3
     ·have hjl : jj < l3.length := by omega
      obtain ⟨b', off', C', T', fr', e1', hb0', hfit', hc'⟩ := (hs3.mono hl6).at'.get hjl
      have htk := take_snoc l3 jj hjl
      have hcs := (hs3.mono hl6).cin _ (List.getElem_mem hjl)
      have hkk := hlb.keys
      rw [e1']
      generalize l3[jj] = x at *
      obtain ⟨xp, xw, xc⟩ := x
      dsimp only at hcs
      repeat' (first | (refine Xv rfl rfl rfl hkk (fun es' ck' q1 q2 => ?_)) | (refine iBu ?_; refine ZL (Zn rfl) rfl rfl ?_) | (refine Zg ?_; first | (refine Zf ?_; refine qQ ?_) | refine Zj ?_) | refine Za ?_ | (refine Zh ?_; refine Zu ?_) | (refine Zi ?_; refine Zv ?_) | intro _)
      rw [← e1']
      have hnew : laV (setL17 lb2 xp (xw, xc)) = setsA (laV la) (l3.take (jj + 1)) := by rw [laV_set, hlv, htk, setsA_snoc]
      refine Zx (jj + 1, setL17 lb2 xp (xw, xc), es', ck') (⟨hlt, hlb.put q1 q2 hcs, hnew⟩) Zo Zo rfl tk inferInstance (by first | omega | (dsimp only; omega))
     ·have hj2 : jj = l3.length := by omega
      rw [hj2, List.take_length] at hlv
      rw [← hlv] at htC
      have hPT1 : PT ρ6 mm ff tt Ra wa D6 ka hd pg6 es6 va sp lb2 e52 := ⟨hfo6, hlg6, hrg6, hk6, hm6, hlb, htC⟩
      repeat' (first | (refine iBu ?_; refine ZL (Zn rfl) rfl rfl ?_) | (refine Zg ?_; first | (refine Zf ?_; refine qQ ?_) | refine Zj ?_) | refine Za ?_ | (refine Zh ?_; refine Zu ?_) | (refine Zi ?_; refine Zv ?_) | intro _)
      rw [← e1]
      refine Zx (i + 1, ρ6, mm, ff, tt, Ra, wa, D6, ka, hd, pg6, es6, ck6, va, sp, lb2, e52, c52) (⟨hgo.1, by omega, hm1, ht1, hl16, hPT1⟩) Zo Zo rfl tk inferInstance (by first | omega | (dsimp only; omega))
    ·rw [if_neg hE] at hch
     rw [← hch] at htA
     have hcb : (E == 0) = false := by simpa using hE
     rw [hcb]
     have hPT1 : PT ρ6 mm ff tt Ra wa D6 ka hd pg6 es6 va sp la e5 := ⟨hfo6, hlg6, hrg6, hk6, hm6, hla6, htA⟩
     repeat' (first | (refine iBu ?_; refine ZL (Zn rfl) rfl rfl ?_) | (refine Zg ?_; first | (refine Zf ?_; refine qQ ?_) | refine Zj ?_) | refine Za ?_ | (refine Zh ?_; refine Zu ?_) | (refine Zi ?_; refine Zv ?_) | intro _)
     rw [← e1]
     refine Zx (i + 1, ρ6, mm, ff, tt, Ra, wa, D6, ka, hd, pg6, es6, ck6, va, sp, la, e5, c5) (⟨hgo.1, by omega, hm1, ht1, hl16, hPT1⟩) Zo Zo rfl tk inferInstance (by first | omega | (dsimp only; omega))
  ·rw [show (((2 : Nat) : Int) == 0) = false from rfl]
   repeat' (first | (refine iBu ?_; refine ZL (Zn rfl) rfl rfl ?_) | (refine Zg ?_; first | (refine Zf ?_; refine qQ ?_) | refine Zj ?_) | refine Za ?_ | (refine Zh ?_; refine Zu ?_) | (refine Zi ?_; refine Zv ?_) | intro _)
   have hm1 : mm ≤ i + 1 := by omega
   have hla6 := hlai3
   by_cases hdt : ∃ num : Nat, num < 64 ∧ e.page = num ∧ ∃ g, pgs num = some g ∧ g.rc ≠ 0
   ·obtain ⟨num, hnum, hpe, g, hg, hg0⟩ := hdt
    have hh := hPT.tl.has num hnum (g.c, g.lsn, g.rc) (by unfold vw; rw [hg]; rfl)
    have hg3 := hh.2.2 hg0
    dsimp only at hg3
    obtain ⟨R8, D8, e8, st8⟩ := hst.steal (num := num) (g := g) hnum hg3.2.1 hg3.2.2 (by unfold M64; omega)
    have hfl := hst.le
    have hS8 := steal17_spec _ pb fb lb mb rb db 902 num hp3 hf3 (by omega) hnum pgs es ck hmp3 g hg ⟨hg3.2.1.ok, hg3.2.1.id, by have := hst.few; have := hg3.2.2; omega⟩ hg0 (pS Ra ff mm) va sp hlg3 wa hrg3 ka Da hPT.dk (by have := hst.few; show ff < 1000000000000000; omega)
    rw [e8, ← hpe] at hS8
    simp only [if_true] at hS8
    refine Zz (Zr _ _ ([[(b7, .cells ⟨[.int .i64 e.kind, .int .i64 e.page, .int .i64 e.at', .slice a3 n3 c3]⟩ 52 (0, 0))]])) (Zy (hT := tk) (Hp.le_refl _)) ?_
    all_goals (refine ZO 0 ?_; refine rNc 1 ?_; refine Yv 2 ?_; refine ZX 3 ?_; refine Yv 4 ?_; refine ZX 5 ?_)
    all_goals (refine Zm (i := 6) ?_; ((try refine Zk ?_); (first | (refine Zc (.func 28) ?_; refine qC rfl rfl hS8 ?_; rintro v8 ρ8 L8 hle8 ⟨rfl, hl8, es8, ck8, w8, k8, hm8, hr8, hk8, rfl⟩; try simp only [List.cons_append, List.nil_append, List.append_assoc, List.append_eq]) | (refine Zj ?_; try intro _)) <;> ((try simp only [kM, kN, kO]); refine Za ?_; refine Zl ?_)))
    all_goals (refine ZN ?_; refine rAs 7 ?_; refine ZI ?_)
    all_goals (repeat' (first | (refine iBu ?_; refine ZL (Zn rfl) rfl rfl ?_) | (refine Zg ?_; first | (refine Zf ?_; refine qQ ?_) | refine Zj ?_) | refine Za ?_ | (refine Zh ?_; refine Zu ?_) | (refine Zi ?_; refine Zv ?_) | intro _))
    all_goals rw [← e1]
    all_goals
     have ht1 : tt + 1 ≤ i + 1 := by omega
     have htS := hPT.tl.steal hnum (x := (g.c, g.lsn, g.rc)) (by unfold vw; rw [hg]; rfl)
     rw [← hpe] at htS
     have hvS : vw (updG pgs e.page { g with rc := 0 }) = setV (vw pgs) e.page (g.c, g.lsn, 0) := vw_upd _ _ _
     rw [← hvS] at htS
     have hlg8 : LgIn ρ8 (pS R8 (max ff g.lsn) mm) va sp := (hlg3.mono hl8).at R8 (max ff g.lsn)
     have hPT1 : PT ρ8 mm (max ff g.lsn) (tt + 1) R8 w8 D8 k8 (upd hd num (g.c, g.lsn)) (updG pgs e.page { g with rc := 0 }) es8 va sp la e5 := ⟨st8, hlg8, hr8, hk8, hm8, hla6.mono hl8, htS⟩
    all_goals refine Zx (i + 1, ρ8, mm, max ff g.lsn, tt + 1, R8, w8, D8, k8, upd hd num (g.c, g.lsn), updG pgs e.page { g with rc := 0 }, es8, ck8, va, sp, la, e5, c5) (⟨hgo.1, by omega, hm1, ht1, Hp.le_trans hl13 hl8, hPT1⟩) Zo Zo rfl tk inferInstance (by first | omega | (dsimp only; omega))
   ·have hS8 := steal17_not _ pb fb lb mb hp3 e.page pgs es ck hmp3 (fun g hg hr => by
     cases hz : g.rc with
     | zero => rfl
     | succ r => exact absurd ⟨e.page.toNat, by omega, by omega, g, by rw [Int.toNat_of_nonneg hr.1]; exact hg, by omega⟩ hdt)
    have ht1 : tt ≤ i + 1 := by omega
    have hPT1 : PT _ mm ff tt Ra wa Da ka hd pgs es va sp la e5 := ⟨hst, hlg3, hrg3, hPT.dk, hmp3, hlai3, hPT.tl⟩
    rcases stealE_cases pgs e.page with hz | hz | hz
    all_goals rw [hz] at hS8
    all_goals refine Zz (Zr _ _ ([[(b7, .cells ⟨[.int .i64 e.kind, .int .i64 e.page, .int .i64 e.at', .slice a3 n3 c3]⟩ 52 (0, 0))]])) (Zy (hT := tk) (Hp.le_refl _)) ?_
    all_goals (refine ZO 0 ?_; refine rNc 1 ?_; refine Yv 2 ?_; refine ZX 3 ?_; refine Yv 4 ?_; refine ZX 5 ?_)
    all_goals (refine Zm (i := 6) ?_; ((try refine Zk ?_); (first | (refine Zc (.func 28) ?_; refine qC rfl rfl (hS8) ?_; rintro v ρ' L' hle ⟨rfl, rfl, rfl⟩ <;> (try simp only [kM, kN, kO])) | (refine Zj ?_; try intro _)) <;> ((try simp only [kM, kN, kO]); refine Za ?_; refine Zl ?_)))
    all_goals (refine ZN ?_; refine rAs 7 ?_; refine ZI ?_)
    all_goals (repeat' (first | (refine iBu ?_; refine ZL (Zn rfl) rfl rfl ?_) | (refine Zg ?_; first | (refine Zf ?_; refine qQ ?_) | refine Zj ?_) | refine Za ?_ | (refine Zh ?_; refine Zu ?_) | (refine Zi ?_; refine Zv ?_) | intro _))
    all_goals rw [← e1]
    all_goals refine Zx (i + 1, _, mm, ff, tt, Ra, wa, Da, ka, hd, pgs, es, ck, va, sp, la, e5, c5) (⟨hgo.1, by omega, hm1, ht1, hl13, hPT1⟩) Zo Zo rfl tk inferInstance (by first | omega | (dsimp only; omega))
  ·rw [show (((3 : Nat) : Int) == 0) = false from rfl]
   repeat' (first | (refine iBu ?_; refine ZL (Zn rfl) rfl rfl ?_) | (refine Zg ?_; first | (refine Zf ?_; refine qQ ?_) | refine Zj ?_) | refine Za ?_ | (refine Zh ?_; refine Zu ?_) | (refine Zi ?_; refine Zv ?_) | intro _)
   have hm1 : mm ≤ i + 1 := by omega
   have ht1 : tt ≤ i + 1 := by omega
   have hEv := evict17_spec _ pb fb lb mb hp3 e.page pgs es ck hmp3
   have htE := hPT.tl.evictG e.page
   refine Zz (Zr _ _ ([[(b7, .cells ⟨[.int .i64 e.kind, .int .i64 e.page, .int .i64 e.at', .slice a3 n3 c3]⟩ 52 (0, 0))]])) (Zy (hT := tk) (Hp.le_refl _)) ?_
   all_goals (refine ZO 0 ?_; refine rNc 1 ?_; refine Yv 2 ?_; refine ZX 3 ?_; refine Yv 4 ?_; refine ZX 5 ?_)
   all_goals (refine Zm (i := 6) ?_; ((try refine Zk ?_); (first | (refine Zc (.func 29) ?_; refine qC rfl rfl hEv ?_; rintro v8 ρ8 L8 hle8 ⟨rfl, rfl, es8, ck8, hm8, rfl⟩; try simp only [List.cons_append, List.nil_append, List.append_assoc, List.append_eq]) | (refine Zj ?_; try intro _)) <;> ((try simp only [kM, kN, kO]); refine Za ?_; refine Zl ?_)))
   all_goals refine ZI ?_
   all_goals (repeat' (first | (refine iBu ?_; refine ZL (Zn rfl) rfl rfl ?_) | (refine Zg ?_; first | (refine Zf ?_; refine qQ ?_) | refine Zj ?_) | refine Za ?_ | (refine Zh ?_; refine Zu ?_) | (refine Zi ?_; refine Zv ?_) | intro _))
   all_goals rw [← e1]
   all_goals have hPT1 : PT _ mm ff tt Ra wa Da ka hd (evictG pgs e.page) es8 va sp la e5 := ⟨hst, hlg3, hrg3, hPT.dk, hm8, hlai3, htE⟩
   all_goals refine Zx (i + 1, _, mm, ff, tt, Ra, wa, Da, ka, hd, evictG pgs e.page, es8, ck8, va, sp, la, e5, c5) (⟨hgo.1, by omega, hm1, ht1, hl13, hPT1⟩) Zo Zo rfl tk inferInstance (by first | omega | (dsimp only; omega))
 ·have hl0a := Hp.le_trans hl02 hla
  have hpa := Hp.at' hla hp2
  have hxa := Hp.at' hla hx2
  have hfa := hf2.mono hla
  have hend : i = n ∨ i < n ∧ i = 40 := by omega
  have hdl := dirty17_spec ρa pb fb lb mb hpa pgs es ck hPT.mp
  have htl := hPT.tl
  have hdk := hPT.dk
  have hmpa := hPT.mp
  have hlaa := hPT.lain
  clear hgo
  rcases hend with hend | ⟨hend, h40⟩
  rotate_left
  obtain ⟨b, off, C, T, fr, e1, hb0, hfit, hc⟩ := (hops.mono hl0a).get (show i < ops.length by omega)
  rw [e1]
  generalize ops[i]'(by omega) = e at *
  have h40' : ((i : Nat) : Int) = 40 := by omega
  repeat' (first | (refine iBu ?_; refine ZL (Zn rfl) rfl rfl ?_) | (refine Zg ?_; first | (refine Zf ?_; refine qQ ?_) | refine Zj ?_) | refine Za ?_ | (refine Zh ?_; refine Zu ?_) | (refine Zi ?_; refine Zv ?_) | intro _)
  rename_i b7 b11
  rotate_left
  repeat' (first | (refine iBu ?_; refine ZL (Zn rfl) rfl rfl ?_) | (refine Zg ?_; first | (refine Zf ?_; refine qQ ?_) | refine Zj ?_) | refine Za ?_ | (refine Zh ?_; refine Zu ?_) | (refine Zi ?_; refine Zv ?_) | intro _)
  rename_i b11
  all_goals (repeat' (first | (refine Zc (.func 30) ?_; refine qC rfl rfl hdl ?_; rintro v3 ρ3 L3 hle3 ⟨hl3, sp3, ho3, rfl⟩; simp only [List.cons_append, List.nil_append, List.append_assoc, List.append_eq]; refine ZM (Ym v3 (flatCk (Xd (allG pgs))) sp3 72) (h := by repeat (first | exact Ya | apply Yn)) (fun ρ4 hl4 hfz4 => ?_); obtain ⟨da, dc, rfl, hdc, hDA⟩ := ho3.aIn rfl (fun _ _ => rfl) hfz4) | (refine iBu ?_; refine ZL (Zn rfl) rfl rfl ?_) | (refine Zg ?_; first | (refine Zf ?_; refine qQ ?_) | refine Zj ?_) | refine Za ?_ | (refine Zh ?_; refine Zu ?_) | (refine Zi ?_; refine Zv ?_) | intro _))
  all_goals
   have hl34 := Hp.le_trans hl3 hl4
   have hd64 : (Xd (allG pgs)).length ≤ 64 := Nat.le_trans (dirtyL_len _) (allTo_len pgs 64)
   have hmem := fun {n : Nat} (hn : n < 64) => dirty_mem (pg := pgs) hn
   generalize Xd (allG pgs) = dl at *
   refine ZH [(2, _), (3, _), (5, _), (11, _), (113, _), (114, _)] (fun (ζ : (Nat) × (List MapEntry) × (Nat)) => [(115, .int .i64 ζ.1)]) (fun (ζ : (Nat) × (List MapEntry) × (Nat)) => ρ4) (fun (ζ : (Nat) × (List MapEntry) × (Nat)) => [(b11, .map ⟨ζ.2.1⟩ ζ.2.2)] :: [(b5, .map ⟨e5⟩ c5)] :: poL mb lb rb db mm ff Ra wa Da ka es ck va sp) (fun (ζ : (Nat) × (List MapEntry) × (Nat)) => ζ.1 ≤ dl.length ∧ DiM ζ.2.1 (dl.take ζ.1)) (fun (ζ : (Nat) × (List MapEntry) × (Nat)) => dl.length - ζ.1) ((0, [], 0)) (⟨Nat.zero_le _, DiM.zero⟩) Zo Zo rfl tk ?_
   rintro ⟨j, e11, c11⟩ hI
   try simp only [List.cons_append, List.nil_append, List.append_assoc, List.append_eq] at hI ⊢
   try dsimp only at hI ⊢
   obtain ⟨hj, hdi⟩ := hI
   by_cases hlt : j < dl.length
   ·obtain ⟨b', off', C', T', fr', e1', hb0', hfit', hc'⟩ := hDA.get hlt
    have htk := List.take_succ_eq_append_getElem hlt
    have hkk := hdi.keys
    rw [e1']
    generalize dl[j] = x at *
    obtain ⟨xp, xs⟩ := x
    repeat' (first | (refine Xv rfl rfl rfl hkk (fun es' ck' q1 q2 => ?_)) | (refine iBu ?_; refine ZL (Zn rfl) rfl rfl ?_) | (refine Zg ?_; first | (refine Zf ?_; refine qQ ?_) | refine Zj ?_) | refine Za ?_ | (refine Zh ?_; refine Zu ?_) | (refine Zi ?_; refine Zv ?_) | intro _)
    rw [← e1']
    have hnew : DiM es' (dl.take (j + 1)) := by rw [htk]; exact hdi.add q1 q2
    refine Zx (j + 1, es', ck') (⟨hlt, hnew⟩) Zo Zo rfl tk inferInstance (by first | omega | (dsimp only; omega))
   ·have hj2 : j = dl.length := by omega
    rw [hj2, List.take_length] at hdi
    repeat' (first | (refine iBu ?_; refine ZL (Zn rfl) rfl rfl ?_) | (refine Zg ?_; first | (refine Zf ?_; refine qQ ?_) | refine Zj ?_) | refine Za ?_ | (refine Zh ?_; refine Zu ?_) | (refine Zi ?_; refine Zv ?_) | intro _)
    have hp4 := Hp.at' hl34 hpa
    have hx4 := Hp.at' hl34 hxa
    have hf4 := hfa.mono hl34
    have hmp4 := hmpa.mono hl34
    have hla4 := hlaa.mono hl34
    have hl04 := Hp.le_trans hl0a hl34
    clear hpa hxa hfa hmpa hlaa hlt hj hj2
    refine ZH [(3, _), (5, _), (11, _)] (fun (ζ : (Nat) × (Hp) × (Pgs) × (List MapEntry) × (Nat) × (DS)) => [(123, .int .i64 ζ.1), (2, .bool false)]) (fun (ζ : (Nat) × (Hp) × (Pgs) × (List MapEntry) × (Nat) × (DS)) => ζ.2.1) (fun (ζ : (Nat) × (Hp) × (Pgs) × (List MapEntry) × (Nat) × (DS)) => [(b11, .map ⟨e11⟩ c11)] :: [(b5, .map ⟨e5⟩ c5)] :: YD mb ζ.2.2.2.1 ζ.2.2.2.2.1 :: ZA db ka ζ.2.2.2.2.2) (fun (ζ : (Nat) × (Hp) × (Pgs) × (List MapEntry) × (Nat) × (DS)) => ζ.1 ≤ 64 ∧ ρ4.le ζ.2.1 ∧ MpIn ζ.2.1 ζ.2.2.2.1 ζ.2.2.1 ∧ Tl mm (vw ζ.2.2.1) hd (laV la) ∧ (∀ n : Int, (∃ x, vw ζ.2.2.1 n = some x ∧ x.2.2 ≠ 0) ↔ ∃ x, vw pgs n = some x ∧ x.2.2 ≠ 0) ∧ DOk ka ζ.2.2.2.2.2 ∧ FO ζ.2.2.2.2.2 902 tt hd ∧ Lv1 ζ.2.2.2.2.2) (fun (ζ : (Nat) × (Hp) × (Pgs) × (List MapEntry) × (Nat) × (DS)) => 64 - ζ.1) ((0, ρ4, pgs, es, ck, Da)) (⟨Nat.zero_le _, Hp.le_refl _, hmp4, htl, fun _ => Iff.rfl, hdk, hst.fo, hst.good.calm.lv⟩) Zo Zo rfl tk ?_
    rintro ⟨num, ρb, pgb, esb, ckb, Db⟩ hI
    try simp only [List.cons_append, List.nil_append, List.append_assoc, List.append_eq] at hI ⊢
    try dsimp only at hI ⊢
    obtain ⟨hnum, hlb, hmb, htb, hdb, hkb, hFb, hLb⟩ := hI
    by_cases hlt : num < 64
    ·have hpg := page_lv ρb pb fb lb mb db 902 num tt (Hp.at' hlb hp4) (hf4.mono hlb) (by omega) hlt ka Db hkb pgb esb ckb hmb hd hFb hLb
     obtain ⟨ht1, ht2⟩ := htb.tells hlt
     have hth := fun (n : Nat) => htb.hold n
     have hdh := fun (n : Int) => holdV_dirty (held := hd) (pv := vw pgb) (k := num) (n := n)
     have hdn := hdb (num : Int)
     generalize hS : XY hd (vw pgb) (num : Int) = S at *
     obtain ⟨sc, sl, sr⟩ := S
     dsimp only at ht1 ht2 hpg
     have hx5 := Hp.at' hlb hx4
     have hla5 := hla4.mono hlb
     have hget := hla5.get (num : Int)
     have hki := hdi.keys
     have hk5 := hla5.keys
     obtain ⟨lw, hlw, hlc⟩ : ∃ lw, ((la (num : Int)).map (fun x => Value.agg ⟨XF x.2.kind x.1⟩)).getD (.agg ⟨XF 0 zCV⟩) = .agg ⟨XF sc.kind lw⟩ ∧ CIn ρb lw sc.rows sc.kids := by
      unfold laV at ht1
      cases hla' : la (num : Int) with
      | none => rw [hla'] at ht1; simp only [Option.map_none, Option.getD_none] at ht1 ⊢; subst ht1; exact ⟨zCV, rfl, CIn.nil⟩
      | some x => rw [hla'] at ht1; simp only [Option.map_some, Option.getD_some] at ht1 ⊢; subst ht1; exact ⟨x.1, rfl, hla5.cin _ _ hla'⟩
     have hsame1 := fun {ρ' : Hp} {w' : CV} (hl : ρb.le ρ') (h : CIn ρ' w' sc.rows sc.kids) => same_spec ρ' w' lw sc sc h (hlc.mono hl)
     simp only [decide_eq_true (rfl : sc = sc)] at hsame1
     have hrl := fun {D' : DS} (hF : FO D' 902 tt hd) (hL : Lv1 D') => hF.readL hL hlt
     have hrd := fun {ρ' : Hp} {D' : DS} (hl : ρb.le ρ') (hk : DOk ka D') (hF : FO D' 902 tt hd) (hL : Lv1 D') => by
      have := Read_spec ρ' fb db 902 num ((hf4.mono hlb).mono hl) (by omega) hlt ka D' hk
      rw [(hrl hF hL).1] at this
      exact this
     have hget' : (YE e5 (num : Int)).getD (.agg ⟨[.int .i64 0, .slice none 0 0, .slice none 0 0]⟩) = .agg ⟨XF sc.kind lw⟩ := by rw [hget]; exact hlw
     clear hget hlw
     rcases ht2 with ⟨hd1, hlt2⟩ | ⟨hd0, heq⟩
     ·have hmg := hdi.yes (num : Int) ((hmem hlt).2 (hdn.1 hd1))
      generalize hd num = hh at *
      obtain ⟨hc, hn⟩ := hh
      dsimp only at hrd hlt2
      repeat' (first | (refine Zc (.func 31) ?_; refine qC rfl rfl hpg ?_; rintro v6 ρ6 L6 hle6 ⟨hl6, w6, es6, ck6, pg6, D6, rfl, hC6, hm6, hv6, hk6, hL6, hF6, rfl⟩; have hx6 := Hp.at' hl6 hx5; have hs6 := hsame1 hl6 hC6; have hr6 := hrd hl6 hk6 hF6 hL6.next; have hF7 := (hrl hF6 hL6.next).2.2; have hL7 := (hrl hF6 hL6.next).2.1; generalize (We D6 902 num).2 = D7 at *; try simp only [List.cons_append, List.nil_append, List.append_assoc, List.append_eq]) | (refine Zc (.func 32) ?_; rw [hget']; refine qC rfl rfl hs6 ?_; rintro v7 ρ7 L7 hle7 ⟨rfl, rfl, rfl⟩; clear hget'; try simp only [List.cons_append, List.nil_append, List.append_assoc, List.append_eq]) | (refine Zc (.func 33) ?_; refine qC rfl rfl hr6 ?_; rintro v8 ρ8 L8 hle8 ⟨hl8, w8, rfl, hC8, hk8, rfl⟩; try simp only [List.cons_append, List.nil_append, List.append_assoc, List.append_eq]) | (refine iBu ?_; refine ZL (Zn rfl) rfl rfl ?_) | (refine Zg ?_; first | (refine Zf ?_; refine qQ ?_) | refine Zj ?_) | refine Za ?_ | (refine Zh ?_; refine Zu ?_) | (refine Zi ?_; refine Zv ?_) | intro _)
      have hl68 := Hp.le_trans hl6 hl8
      have hth1 := hth num
      rw [← hv6] at hth1
      refine Zx (num + 1, _, pg6, es6, ck6, D7) (⟨hlt, Hp.le_trans hlb hl68, hm6.mono hl8, hth1, fun n => by rw [hv6, hdh n]; exact hdb n, hk8, hF7, hL7.next⟩) Zo Zo rfl tk inferInstance (by first | omega | (dsimp only; omega))
     ·have hmg := hdi.no (num : Int) (fun h => hd0 (hdn.2 ((hmem hlt).1 h)))
      have hsame2 := fun {ρ' : Hp} {w' w'' : CV} (hl : ρb.le ρ') (h : CIn ρ' w' sc.rows sc.kids) (h' : CIn ρ' w'' sc.rows sc.kids) => same_spec ρ' w' w'' sc sc h h'
      simp only [decide_eq_true (rfl : sc = sc)] at hsame2
      rw [heq] at hrd hrl
      dsimp only at hrd
      repeat' (first | (refine Zc (.func 31) ?_; refine qC rfl rfl hpg ?_; rintro v6 ρ6 L6 hle6 ⟨hl6, w6, es6, ck6, pg6, D6, rfl, hC6, hm6, hv6, hk6, hL6, hF6, rfl⟩; have hx6 := Hp.at' hl6 hx5; have hs6 := hsame1 hl6 hC6; have hr6 := hrd hl6 hk6 hF6 hL6.next; have hF7 := (hrl hF6 hL6.next).2.2; have hL7 := (hrl hF6 hL6.next).2.1; generalize (We D6 902 num).2 = D7 at *; try simp only [List.cons_append, List.nil_append, List.append_assoc, List.append_eq]) | (refine Zc (.func 32) ?_; rw [hget']; refine qC rfl rfl hs6 ?_; rintro v7 ρ7 L7 hle7 ⟨rfl, rfl, rfl⟩; clear hget'; try simp only [List.cons_append, List.nil_append, List.append_assoc, List.append_eq]) | (refine Zc (.func 33) ?_; refine qC rfl rfl hr6 ?_; rintro v8 ρ8 L8 hle8 ⟨hl8, w8, rfl, hC8, hk8, rfl⟩; have hs8 := hsame2 (Hp.le_trans hl6 hl8) hC8 (hC6.mono hl8); try simp only [List.cons_append, List.nil_append, List.append_assoc, List.append_eq]) | (refine Zc (.func 32) ?_; refine qC rfl rfl hs8 ?_; rintro v9 ρ9 L9 hle9 ⟨rfl, rfl, rfl⟩; try simp only [List.cons_append, List.nil_append, List.append_assoc, List.append_eq]) | (refine iBu ?_; refine ZL (Zn rfl) rfl rfl ?_) | (refine Zg ?_; first | (refine Zf ?_; refine qQ ?_) | refine Zj ?_) | refine Za ?_ | (refine Zh ?_; refine Zu ?_) | (refine Zi ?_; refine Zv ?_) | intro _)
      have hl68 := Hp.le_trans hl6 hl8
      have hth1 := hth num
      rw [← hv6] at hth1
      refine Zx (num + 1, _, pg6, es6, ck6, D7) (⟨hlt, Hp.le_trans hlb hl68, hm6.mono hl8, hth1, fun n => by rw [hv6, hdh n]; exact hdb n, hk8, hF7, hL7.next⟩) Zo Zo rfl tk inferInstance (by first | omega | (dsimp only; omega))
    ·repeat' (first | (refine iBu ?_; refine ZL (Zn rfl) rfl rfl ?_) | (refine Zg ?_; first | (refine Zf ?_; refine qQ ?_) | refine Zj ?_) | refine Za ?_ | (refine Zh ?_; refine Zu ?_) | (refine Zi ?_; refine Zv ?_) | intro _)
     exact qE (L' := []) ⟨rfl, Hp.le_trans hl04 hlb, rfl⟩
end Go.Proofs.E
