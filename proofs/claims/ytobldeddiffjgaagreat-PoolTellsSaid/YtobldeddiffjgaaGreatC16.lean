/- The law PoolTells. Part 16 of 20. -/
import Derived.Test.YtobldeddiffjgaaGreatC15
namespace Go.Proofs.E
open Go
set_option linter.unusedVariables false
set_option linter.unusedSimpArgs false
set_option linter.unusedSectionVars false
set_option maxRecDepth 4000
set_option maxHeartbeats 1000000
attribute [local irreducible] Yl TL TC TE Spec XU R1 Hp.le EnvLe TS TR YS Zr
theorem prevS_zero (l : List Sh) : prevS l 0 = -1 := by unfold prevS; rw [dif_neg (by omega)]
theorem prevS_pos {l : List Sh} {k : Nat} (h0 : k ≠ 0) (hk : k < l.length) : prevS l k = (l[k - 1]'(by omega)).page := by unfold prevS; rw [dif_pos ⟨by omega, by omega⟩]
theorem riseS_pages : ∀ {l : List Sh} {last : Int}, Vv last l = true → ∀ s ∈ l, 0 ≤ s.page ∧ s.page < 64
 | [], _, _, s, hs => by cases hs
 | x :: r, last, h, s, hs => by
  rw [Vv, Bool.and_eq_true, decide_eq_true_eq] at h
  rcases List.mem_cons.1 hs with rfl | hs
  ·exact h.1.2
  ·exact riseS_pages h.2 s hs
theorem asked_spec (ρ : Hp) (pb fb lb mb rb db base t : Nat) (hp : PoIn ρ pb fb lb mb) (hf : FIn ρ fb db base) (hb : base ≤ 100000) (S : LgS) (v : Value) (sp : List Value) (hS : LgIn ρ S v sp) (k : DK) (D : DS) (hD : DOk k D) (pg : Pgs) (es : List MapEntry) (ck : Nat) (hm : MpIn ρ es pg) (held : Nat → Xc) (hF : FO D base t held) (hL : Lv1 D)
  (lsn : Nat) (a : Option Addr) (n c : Nat) (l : List Sh) (h : ShsIn ρ a n c l) :
  Spec Tryz.prog 63 [.pointer (some ⟨pb, 0, none⟩), .int .u64 (lsn : Nat), .slice a n c] ρ (YB lb rb S v :: Xf S v sp :: YD mb es ck :: ZA db k D)
   (fun z ρ' L' => z = .int .i64 (askE (recF S lsn).isSome held (vw pg) lsn l) ∧ ρ.le ρ' ∧ ∃ es' ck' pg' D', MpIn ρ' es' pg' ∧ vw pg' = askV (recF S lsn).isSome held (vw pg) l ∧ DOk k D' ∧ Lv D D' ∧ FO D' base t held ∧ L' = YB lb rb S v :: Xf S v sp :: YD mb es' ck' :: ZA db k D') := by
 have hl := h.at'.len
 have hbig := h.big
 have hrec := rec16_spec ρ lb rb S v sp hS lsn
 generalize hE : askE (recF S lsn).isSome held (vw pg) lsn l = E
 generalize hV : askV (recF S lsn).isSome held (vw pg) l = V
 unfold askE at hE
 unfold askV at hV
 generalize ho : recF S lsn = o at *
 have hone : (rrV (o.getD zRR)).length = 10 := rfl
 refine Ze Tryz.func63 rfl rfl rfl fun u R => ?_
 simp only [Zt, List.cons_append, List.nil_append]
 cases hoo : o with
 | none =>
  subst hoo
  rw [if_pos (.inl rfl)] at hE hV
  subst hE; subst hV
  have hrc : (fun z ρ' L' => z = recAns none ∧ ρ.le ρ' ∧ L' = [YB lb rb S v, Xf S v sp]) = (fun z ρ' L' => z = .tuple ⟨[.agg ⟨Vb zRR.1 zRR.2⟩, .int .i64 4]⟩ ∧ ρ.le ρ' ∧ L' = [YB lb rb S v, Xf S v sp]) := rfl
  rw [hrc] at hrec
  repeat' (first | (refine Zc (.func 10) ?_; refine qC rfl rfl hrec ?_; rintro v1 ρ1 L1 hle1 ⟨rfl, hl1, rfl⟩; try simp only [List.cons_append, List.nil_append, List.append_assoc, List.append_eq]) | (refine iBu ?_; refine ZL (Zn rfl) rfl rfl ?_) | (refine Zg ?_; first | (refine Zf ?_; refine qQ ?_) | refine Zj ?_) | refine Za ?_ | (refine Zh ?_; refine Zu ?_) | (refine Zi ?_; refine Zv ?_) | intro _)
  exact qE (L' := YB lb rb S v :: Xf S v sp :: YD mb es ck :: ZA db k D) ⟨rfl, hl1, es, ck, pg, D, hm.mono hl1, rfl, hD, hL, hF, rfl⟩
 | some x =>
  subst hoo
  obtain ⟨xv, xr⟩ := x
  simp only [Option.isSome_some, Bool.true_eq_false, false_or] at hE hV
  have hrc : (fun z ρ' L' => z = recAns (some (xv, xr)) ∧ ρ.le ρ' ∧ L' = [YB lb rb S v, Xf S v sp]) = (fun z ρ' L' => z = .tuple ⟨[.agg ⟨Vb xv xr⟩, .int .i64 0]⟩ ∧ ρ.le ρ' ∧ L' = [YB lb rb S v, Xf S v sp]) := rfl
  rw [hrc] at hrec
  by_cases hnil : l = []
  ·rw [if_pos hnil] at hE hV
   subst hE; subst hV
   have hn0 : ((n : Nat) : Int) = 0 := by rw [← hl, hnil]; rfl
   repeat' (first | (refine Zc (.func 10) ?_; refine qC rfl rfl hrec ?_; rintro v1 ρ1 L1 hle1 ⟨rfl, hl1, rfl⟩; try simp only [List.cons_append, List.nil_append, List.append_assoc, List.append_eq]) | (refine iBu ?_; refine ZL (Zn rfl) rfl rfl ?_) | (refine Zg ?_; first | (refine Zf ?_; refine qQ ?_) | refine Zj ?_) | refine Za ?_ | (refine Zh ?_; refine Zu ?_) | (refine Zi ?_; refine Zv ?_) | intro _)
   exact qE (L' := YB lb rb S v :: Xf S v sp :: YD mb es ck :: ZA db k D) ⟨rfl, hl1, es, ck, pg, D, hm.mono hl1, rfl, hD, hL, hF, rfl⟩
  ·rw [if_neg hnil] at hE hV
   have hn0 : ¬ ((n : Nat) : Int) = 0 := by
    intro e; apply hnil; exact List.eq_nil_of_length_eq_zero (by omega)
   repeat' (first | (refine Zc (.func 10) ?_; refine qC rfl rfl hrec ?_; rintro v1 ρ1 L1 hle1 ⟨rfl, hl1, rfl⟩; try simp only [List.cons_append, List.nil_append, List.append_assoc, List.append_eq]) | (refine iBu ?_; refine ZL (Zn rfl) rfl rfl ?_) | (refine Zg ?_; first | (refine Zf ?_; refine qQ ?_) | refine Zj ?_) | refine Za ?_ | (refine Zh ?_; refine Zu ?_) | (refine Zi ?_; refine Zv ?_) | intro _)
   have hp1 := Hp.at' hl1 hp
   have hf1 := hf.mono hl1
   have hm1 := hm.mono hl1
   have h1 := h.mono hl1
   clear hp hf hm h hrec
   refine ZH [(0, _), (1, _), (2, _), (36, _), (37, _)] (fun (ζ : (Nat)) => [(38, .int .i64 ζ), (6, .int .i64 0)]) (fun (ζ : (Nat)) => ρ1) (fun (ζ : (Nat)) => YB lb rb S v :: Xf S v sp :: YD mb es ck :: ZA db k D) (fun (ζ : (Nat)) => ζ ≤ n ∧ Vv (prevS l ζ) (l.drop ζ) = Vv (-1) l) (fun (ζ : (Nat)) => n - ζ) (0) (⟨Nat.zero_le _, by rw [prevS_zero]; rfl⟩) Zo Zo rfl tk ?_
   rintro i hI
   try simp only [List.cons_append, List.nil_append, List.append_assoc, List.append_eq] at hI ⊢
   try dsimp only at hI ⊢
   obtain ⟨hi, hri⟩ := hI
   by_cases hlt : i < n
   ·have hil : i < l.length := by omega
    obtain ⟨b, off, C, T, fr, e1, hb0, hfit, hc⟩ := h1.at'.get hil
    have hs := riseS_drop hil
    rw [hri] at hs
    have hth := fun ρ => there_spec ρ (l[i]).page
    have hbad : (¬ (0 ≤ (l[i]).page ∧ (l[i]).page < 64) ∨ (l[i]).page ≤ prevS l i) → Vv (-1) l = false := fun hx => by
     rw [hs, decide_eq_false (by omega)]; rfl
    have hgood : 0 ≤ (l[i]).page ∧ (l[i]).page < 64 → prevS l i < (l[i]).page → Vv (prevS l (i + 1)) (l.drop (i + 1)) = Vv (-1) l := fun h1 h2 => by
     rw [hs, decide_eq_true ⟨h2, h1⟩, Bool.true_and]
    rw [e1]
    by_cases hi0 : i = 0
    ·have hpr : prevS l i = -1 := by rw [hi0]; exact prevS_zero l
     rw [hpr] at hbad hgood
     have hi0' : ¬ ((i : Int) > 0) := by omega
     clear hs hri
     generalize l[i] = x at *
     by_cases hx : 0 ≤ x.page ∧ x.page < 64
     ·simp only [decide_eq_true hx] at hth
      repeat' (first | (refine iBu ?_; refine ZL (Zn rfl) rfl rfl ?_) | (refine Zg ?_; first | (refine Zf ?_; refine qQ ?_) | refine Zj ?_) | refine Za ?_ | (refine Zh ?_; refine Zu ?_) | (refine Zi ?_; refine Zv ?_) | intro _)
      rename_i bx
      refine Zz (Zr _ _ ([[(bx, .cells ⟨sheV x⟩ 67 (0, 0))]])) (Zy (hT := tk) (Hp.le_refl _)) ?_
      all_goals (refine Yv 0 ?_; refine ZX 1 ?_)
      all_goals (refine Zm (i := 2) ?_; ((try refine Zk ?_); (first | (refine Zc (.func 70) ?_; refine qC rfl rfl (hth _) ?_; rintro v ρ' L' hle ⟨rfl, rfl, rfl⟩ <;> (try simp only [kM, kN, kO])) | (refine Zj ?_; try intro _)) <;> ((try simp only [kM, kN, kO]); refine Za ?_; refine Zl ?_)))
      all_goals (refine ZN ?_; refine rUn 3 ?_; refine ZO 4 ?_; (first | refine Zd 5 ?_ | refine Zb 5 ?_ | refine Yk 5 ?_); (first | refine Zd 6 ?_ | refine Zb 6 ?_ | refine wCm 6 ?_); (first | refine Zd 7 ?_ | refine Zb 7 ?_ | refine Yk 7 ?_); (first | refine Zd 8 ?_ | refine Zb 8 ?_ | refine Yk 8 ?_); (first | refine Zd 9 ?_ | refine Zb 9 ?_ | refine Yk 9 ?_); (first | refine Zd 10 ?_ | refine Zb 10 ?_ | refine wSb 10 ?_); (first | refine Zd 11 ?_ | refine Zb 11 ?_ | refine wIa 11 ?_); (first | refine Zd 12 ?_ | refine Zb 12 ?_ | refine wFa 12 ?_); (first | refine Zd 13 ?_ | refine Zb 13 ?_ | refine wLd 13 ?_); (first | refine Zd 14 ?_ | refine Zb 14 ?_ | refine wFa 14 ?_); (first | refine Zd 15 ?_ | refine Zb 15 ?_ | refine wLd 15 ?_); (first | refine Zd 16 ?_ | refine Zb 16 ?_ | refine wCm 16 ?_); (first | refine Zd 17 ?_ | refine Zb 17 ?_ | refine wPk 17 ?_); refine rPk 18 ?_; refine ZI ?_)
      all_goals (repeat' (first | (refine iBu ?_; refine ZL (Zn rfl) rfl rfl ?_) | (refine Zg ?_; first | (refine Zf ?_; refine qQ ?_) | refine Zj ?_) | refine Za ?_ | (refine Zh ?_; refine Zu ?_) | (refine Zi ?_; refine Zv ?_) | intro _))
      all_goals rw [← e1]
      all_goals refine Zx (i + 1) (⟨hlt, hgood hx (by omega)⟩) Zo Zo rfl tk inferInstance (by first | omega | (dsimp only; omega))
     ·simp only [decide_eq_false hx] at hth
      rw [if_pos (hbad (.inl hx))] at hE hV
      subst hE; subst hV
      repeat' (first | (refine iBu ?_; refine ZL (Zn rfl) rfl rfl ?_) | (refine Zg ?_; first | (refine Zf ?_; refine qQ ?_) | refine Zj ?_) | refine Za ?_ | (refine Zh ?_; refine Zu ?_) | (refine Zi ?_; refine Zv ?_) | intro _)
      rename_i bx
      refine Zz (Zr _ _ ([[(bx, .cells ⟨sheV x⟩ 67 (0, 0))]])) (Zy (hT := tk) (Hp.le_refl _)) ?_
      all_goals (refine Yv 0 ?_; refine ZX 1 ?_)
      all_goals (refine Zm (i := 2) ?_; ((try refine Zk ?_); (first | (refine Zc (.func 70) ?_; refine qC rfl rfl (hth _) ?_; rintro v ρ' L' hle ⟨rfl, rfl, rfl⟩ <;> (try simp only [kM, kN, kO])) | (refine Zj ?_; try intro _)) <;> ((try simp only [kM, kN, kO]); refine Za ?_; refine Zl ?_)))
      all_goals (refine ZN ?_; refine rUn 3 ?_; refine ZO 4 ?_; (first | refine Zd 5 ?_ | refine Zb 5 ?_ | refine Yk 5 ?_); (first | refine Zd 6 ?_ | refine Zb 6 ?_ | refine wCm 6 ?_); (first | refine Zd 7 ?_ | refine Zb 7 ?_ | refine Yk 7 ?_); (first | refine Zd 8 ?_ | refine Zb 8 ?_ | refine Yk 8 ?_); (first | refine Zd 9 ?_ | refine Zb 9 ?_ | refine Yk 9 ?_); (first | refine Zd 10 ?_ | refine Zb 10 ?_ | refine wSb 10 ?_); (first | refine Zd 11 ?_ | refine Zb 11 ?_ | refine wIa 11 ?_); (first | refine Zd 12 ?_ | refine Zb 12 ?_ | refine wFa 12 ?_); (first | refine Zd 13 ?_ | refine Zb 13 ?_ | refine wLd 13 ?_); (first | refine Zd 14 ?_ | refine Zb 14 ?_ | refine wFa 14 ?_); (first | refine Zd 15 ?_ | refine Zb 15 ?_ | refine wLd 15 ?_); (first | refine Zd 16 ?_ | refine Zb 16 ?_ | refine wCm 16 ?_); (first | refine Zd 17 ?_ | refine Zb 17 ?_ | refine wPk 17 ?_); refine rPk 18 ?_; refine ZI ?_)
      all_goals (repeat' (first | (refine iBu ?_; refine ZL (Zn rfl) rfl rfl ?_) | (refine Zg ?_; first | (refine Zf ?_; refine qQ ?_) | refine Zj ?_) | refine Za ?_ | (refine Zh ?_; refine Zu ?_) | (refine Zi ?_; refine Zv ?_) | intro _))
      all_goals exact qE (L' := YB lb rb S v :: Xf S v sp :: YD mb es ck :: ZA db k D) ⟨rfl, hl1, es, ck, pg, D, hm1, rfl, hD, hL, hF, rfl⟩
    ·have hpr := prevS_pos hi0 hil
     rw [hpr] at hbad hgood
     obtain ⟨b2, off2, C2, T2, fr2, f1, hb2, hfit2, hc2⟩ := h1.at'.get (show i - 1 < l.length by omega)
     rw [e1] at f1
     cases f1
     rw [hb0] at hb2
     cases hb2
     have ek : ((i : Int) - 1).toNat = i - 1 := by omega
     rw [← ek] at hfit2
     have hc3 : List.take 4 (List.drop (off + ((i : Int) - 1).toNat * 4) C) = sheV (l[i - 1]'(by omega)) := by rw [ek]; exact hc2
     have hc4 : C[off + ((i : Int) - 1).toNat * 4]? = some (.int .i64 (l[i - 1]'(by omega)).page) := by
      have := congrArg (fun l : List Value => l[0]?) hc3
      simp only [List.getElem?_take_of_lt (show 0 < 4 by omega), List.getElem?_drop, Nat.add_zero] at this
      exact this
     clear hc2 hc3 hs hri
     generalize l[i] = x at *
     generalize l[i - 1]'(by omega) = y at *
     by_cases hx : 0 ≤ x.page ∧ x.page < 64
     ·simp only [decide_eq_true hx] at hth
      by_cases hyx : y.page < x.page
      ·have hyx' : ¬ x.page ≤ y.page := by omega
       repeat' (first | (refine iBu ?_; refine ZL (Zn rfl) rfl rfl ?_) | (refine Zg ?_; first | (refine Zf ?_; refine qQ ?_) | refine Zj ?_) | refine Za ?_ | (refine Zh ?_; refine Zu ?_) | (refine Zi ?_; refine Zv ?_) | intro _)
       rename_i bx
       refine Zz (Zr _ _ ([[(bx, .cells ⟨sheV x⟩ 67 (0, 0))]])) (Zy (hT := tk) (Hp.le_refl _)) ?_
       all_goals (refine Yv 0 ?_; refine ZX 1 ?_)
       all_goals (refine Zm (i := 2) ?_; ((try refine Zk ?_); (first | (refine Zc (.func 70) ?_; refine qC rfl rfl (hth _) ?_; rintro v ρ' L' hle ⟨rfl, rfl, rfl⟩ <;> (try simp only [kM, kN, kO])) | (refine Zj ?_; try intro _)) <;> ((try simp only [kM, kN, kO]); refine Za ?_; refine Zl ?_)))
       all_goals (refine ZN ?_; refine rUn 3 ?_; refine ZO 4 ?_; (first | refine Zd 5 ?_ | refine Zb 5 ?_ | refine Yk 5 ?_); (first | refine Zd 6 ?_ | refine Zb 6 ?_ | refine wCm 6 ?_); (first | refine Zd 7 ?_ | refine Zb 7 ?_ | refine Yk 7 ?_); (first | refine Zd 8 ?_ | refine Zb 8 ?_ | refine Yk 8 ?_); (first | refine Zd 9 ?_ | refine Zb 9 ?_ | refine Yk 9 ?_); (first | refine Zd 10 ?_ | refine Zb 10 ?_ | refine wSb 10 ?_); (first | refine Zd 11 ?_ | refine Zb 11 ?_ | refine wIa 11 ?_); (first | refine Zd 12 ?_ | refine Zb 12 ?_ | refine wFa 12 ?_); (first | refine Zd 13 ?_ | refine Zb 13 ?_ | refine wLd 13 ?_); (first | refine Zd 14 ?_ | refine Zb 14 ?_ | refine wFa 14 ?_); (first | refine Zd 15 ?_ | refine Zb 15 ?_ | refine wLd 15 ?_); (first | refine Zd 16 ?_ | refine Zb 16 ?_ | refine wCm 16 ?_); (first | refine Zd 17 ?_ | refine Zb 17 ?_ | refine wPk 17 ?_); refine rPk 18 ?_; refine ZI ?_)
       all_goals (repeat' (first | (refine iBu ?_; refine ZL (Zn rfl) rfl rfl ?_) | (refine Zg ?_; first | (refine Zf ?_; refine qQ ?_) | refine Zj ?_) | refine Za ?_ | (refine Zh ?_; refine Zu ?_) | (refine Zi ?_; refine Zv ?_) | intro _))
       all_goals rw [← e1]
       all_goals refine Zx (i + 1) (⟨hlt, hgood hx hyx⟩) Zo Zo rfl tk inferInstance (by first | omega | (dsimp only; omega))
      ·have hyx' : x.page ≤ y.page := by omega
       rw [if_pos (hbad (.inr hyx'))] at hE hV
       subst hE; subst hV
       repeat' (first | (refine iBu ?_; refine ZL (Zn rfl) rfl rfl ?_) | (refine Zg ?_; first | (refine Zf ?_; refine qQ ?_) | refine Zj ?_) | refine Za ?_ | (refine Zh ?_; refine Zu ?_) | (refine Zi ?_; refine Zv ?_) | intro _)
       rename_i bx
       refine Zz (Zr _ _ ([[(bx, .cells ⟨sheV x⟩ 67 (0, 0))]])) (Zy (hT := tk) (Hp.le_refl _)) ?_
       all_goals (refine Yv 0 ?_; refine ZX 1 ?_)
       all_goals (refine Zm (i := 2) ?_; ((try refine Zk ?_); (first | (refine Zc (.func 70) ?_; refine qC rfl rfl (hth _) ?_; rintro v ρ' L' hle ⟨rfl, rfl, rfl⟩ <;> (try simp only [kM, kN, kO])) | (refine Zj ?_; try intro _)) <;> ((try simp only [kM, kN, kO]); refine Za ?_; refine Zl ?_)))
       all_goals (refine ZN ?_; refine rUn 3 ?_; refine ZO 4 ?_; (first | refine Zd 5 ?_ | refine Zb 5 ?_ | refine Yk 5 ?_); (first | refine Zd 6 ?_ | refine Zb 6 ?_ | refine wCm 6 ?_); (first | refine Zd 7 ?_ | refine Zb 7 ?_ | refine Yk 7 ?_); (first | refine Zd 8 ?_ | refine Zb 8 ?_ | refine Yk 8 ?_); (first | refine Zd 9 ?_ | refine Zb 9 ?_ | refine Yk 9 ?_); (first | refine Zd 10 ?_ | refine Zb 10 ?_ | refine wSb 10 ?_); (first | refine Zd 11 ?_ | refine Zb 11 ?_ | refine wIa 11 ?_); (first | refine Zd 12 ?_ | refine Zb 12 ?_ | refine wFa 12 ?_); (first | refine Zd 13 ?_ | refine Zb 13 ?_ | refine wLd 13 ?_); (first | refine Zd 14 ?_ | refine Zb 14 ?_ | refine wFa 14 ?_); (first | refine Zd 15 ?_ | refine Zb 15 ?_ | refine wLd 15 ?_); (first | refine Zd 16 ?_ | refine Zb 16 ?_ | refine wCm 16 ?_); (first | refine Zd 17 ?_ | refine Zb 17 ?_ | refine wPk 17 ?_); refine rPk 18 ?_; refine ZI ?_)
       all_goals (repeat' (first | (refine iBu ?_; refine ZL (Zn rfl) rfl rfl ?_) | (refine Zg ?_; first | (refine Zf ?_; refine qQ ?_) | refine Zj ?_) | refine Za ?_ | (refine Zh ?_; refine Zu ?_) | (refine Zi ?_; refine Zv ?_) | intro _))
       all_goals exact qE (L' := YB lb rb S v :: Xf S v sp :: YD mb es ck :: ZA db k D) ⟨rfl, hl1, es, ck, pg, D, hm1, rfl, hD, hL, hF, rfl⟩
     ·simp only [decide_eq_false hx] at hth
      rw [if_pos (hbad (.inl hx))] at hE hV
      subst hE; subst hV
      repeat' (first | (refine iBu ?_; refine ZL (Zn rfl) rfl rfl ?_) | (refine Zg ?_; first | (refine Zf ?_; refine qQ ?_) | refine Zj ?_) | refine Za ?_ | (refine Zh ?_; refine Zu ?_) | (refine Zi ?_; refine Zv ?_) | intro _)
      rename_i bx
      refine Zz (Zr _ _ ([[(bx, .cells ⟨sheV x⟩ 67 (0, 0))]])) (Zy (hT := tk) (Hp.le_refl _)) ?_
      all_goals (refine Yv 0 ?_; refine ZX 1 ?_)
      all_goals (refine Zm (i := 2) ?_; ((try refine Zk ?_); (first | (refine Zc (.func 70) ?_; refine qC rfl rfl (hth _) ?_; rintro v ρ' L' hle ⟨rfl, rfl, rfl⟩ <;> (try simp only [kM, kN, kO])) | (refine Zj ?_; try intro _)) <;> ((try simp only [kM, kN, kO]); refine Za ?_; refine Zl ?_)))
      all_goals (refine ZN ?_; refine rUn 3 ?_; refine ZO 4 ?_; (first | refine Zd 5 ?_ | refine Zb 5 ?_ | refine Yk 5 ?_); (first | refine Zd 6 ?_ | refine Zb 6 ?_ | refine wCm 6 ?_); (first | refine Zd 7 ?_ | refine Zb 7 ?_ | refine Yk 7 ?_); (first | refine Zd 8 ?_ | refine Zb 8 ?_ | refine Yk 8 ?_); (first | refine Zd 9 ?_ | refine Zb 9 ?_ | refine Yk 9 ?_); (first | refine Zd 10 ?_ | refine Zb 10 ?_ | refine wSb 10 ?_); (first | refine Zd 11 ?_ | refine Zb 11 ?_ | refine wIa 11 ?_); (first | refine Zd 12 ?_ | refine Zb 12 ?_ | refine wFa 12 ?_); (first | refine Zd 13 ?_ | refine Zb 13 ?_ | refine wLd 13 ?_); (first | refine Zd 14 ?_ | refine Zb 14 ?_ | refine wFa 14 ?_); (first | refine Zd 15 ?_ | refine Zb 15 ?_ | refine wLd 15 ?_); (first | refine Zd 16 ?_ | refine Zb 16 ?_ | refine wCm 16 ?_); (first | refine Zd 17 ?_ | refine Zb 17 ?_ | refine wPk 17 ?_); refine rPk 18 ?_; refine ZI ?_)
      all_goals (repeat' (first | (refine iBu ?_; refine ZL (Zn rfl) rfl rfl ?_) | (refine Zg ?_; first | (refine Zf ?_; refine qQ ?_) | refine Zj ?_) | refine Za ?_ | (refine Zh ?_; refine Zu ?_) | (refine Zi ?_; refine Zv ?_) | intro _))
      all_goals exact qE (L' := YB lb rb S v :: Xf S v sp :: YD mb es ck :: ZA db k D) ⟨rfl, hl1, es, ck, pg, D, hm1, rfl, hD, hL, hF, rfl⟩
   ·have hi2 : i = l.length := by omega
    rw [hi2, List.drop_length, Vv] at hri
    rw [if_neg (by rw [← hri]; simp)] at hE hV
    have hrt := hri.symm
    repeat' (first | (refine iBu ?_; refine ZL (Zn rfl) rfl rfl ?_) | (refine Zg ?_; first | (refine Zf ?_; refine qQ ?_) | refine Zj ?_) | refine Za ?_ | (refine Zh ?_; refine Zu ?_) | (refine Zi ?_; refine Zv ?_) | intro _)
    clear hri hi hi2 hlt
    refine ZH [(0, _), (1, _), (2, _), (63, _), (64, _)] (fun (ζ : (Nat)) => [(65, .int .i64 ζ), (6, .int .i64 0)]) (fun (ζ : (Nat)) => ρ1) (fun (ζ : (Nat)) => YB lb rb S v :: Xf S v sp :: YD mb es ck :: ZA db k D) (fun (ζ : (Nat)) => ζ ≤ n ∧ (l.take ζ).all (fun s => ZT s.c) = true) (fun (ζ : (Nat)) => n - ζ) (0) (⟨Nat.zero_le _, rfl⟩) Zo Zo rfl tk ?_
    rintro i hI
    try simp only [List.cons_append, List.nil_append, List.append_assoc, List.append_eq] at hI ⊢
    try dsimp only at hI ⊢
    obtain ⟨hi, hok⟩ := hI
    by_cases hlt : i < n
    ·have hil : i < l.length := by omega
     obtain ⟨b, off, C, T, fr, e1, hb0, hfit, hc⟩ := h1.at'.get hil
     have hck := XN ρ1 (l[i]).w (l[i]).c (h1.cin _ (List.getElem_mem hil))
     have htk := take_snoc l i hil
     have hbad : ZT (l[i]).c = false → l.all (fun s => ZT s.c) = false := fun e => by
      cases hA : l.all (fun s => ZT s.c) with
      | false => rfl
      | true => rw [List.all_eq_true] at hA; rw [hA _ (List.getElem_mem hil)] at e; cases e
     rw [e1]
     generalize l[i] = x at *
     cases hx : ZT x.c
     ·rw [hx] at hck
      rw [if_pos (hbad hx)] at hE hV
      subst hE; subst hV
      repeat' (first | (refine Zc (.func 118) ?_; refine qC rfl rfl (hck) ?_; rintro v ρ' L' hle ⟨rfl, rfl, rfl⟩ <;> (try simp only [kM, kN, kO, if_false, Bool.false_eq_true])) | (refine iBu ?_; refine ZL (Zn rfl) rfl rfl ?_) | (refine Zg ?_; first | (refine Zf ?_; refine qQ ?_) | refine Zj ?_) | refine Za ?_ | (refine Zh ?_; refine Zu ?_) | (refine Zi ?_; refine Zv ?_) | intro _)
      exact qE (L' := YB lb rb S v :: Xf S v sp :: YD mb es ck :: ZA db k D) ⟨rfl, hl1, es, ck, pg, D, hm1, rfl, hD, hL, hF, rfl⟩
     ·rw [hx] at hck
      repeat' (first | (refine Zc (.func 118) ?_; refine qC rfl rfl (hck) ?_; rintro v ρ' L' hle ⟨rfl, rfl, rfl⟩ <;> (try simp only [kM, kN, kO, if_true])) | (refine iBu ?_; refine ZL (Zn rfl) rfl rfl ?_) | (refine Zg ?_; first | (refine Zf ?_; refine qQ ?_) | refine Zj ?_) | refine Za ?_ | (refine Zh ?_; refine Zu ?_) | (refine Zi ?_; refine Zv ?_) | intro _)
      rw [← e1]
      refine Zx (i + 1) (⟨hlt, by rw [htk, List.all_append, hok]; simp [hx]⟩) Zo Zo rfl tk inferInstance (by first | omega | (dsimp only; omega))
    ·have hi2 : i = l.length := by omega
     rw [hi2, List.take_length] at hok
     rw [if_neg (by rw [hok]; simp)] at hE hV
     have hpages := riseS_pages hrt
     repeat' (first | (refine iBu ?_; refine ZL (Zn rfl) rfl rfl ?_) | (refine Zg ?_; first | (refine Zf ?_; refine qQ ?_) | refine Zj ?_) | refine Za ?_ | (refine Zh ?_; refine Zu ?_) | (refine Zi ?_; refine Zv ?_) | intro _)
     clear hok hi hi2 hlt
     refine ZH [(0, _), (1, _), (2, _), (76, _), (77, _)] (fun (ζ : (Nat) × (Hp) × (Pgs) × (List MapEntry) × (Nat) × (DS)) => [(78, .int .i64 ζ.1), (6, .int .i64 0)]) (fun (ζ : (Nat) × (Hp) × (Pgs) × (List MapEntry) × (Nat) × (DS)) => ζ.2.1) (fun (ζ : (Nat) × (Hp) × (Pgs) × (List MapEntry) × (Nat) × (DS)) => YB lb rb S v :: Xf S v sp :: YD mb ζ.2.2.2.1 ζ.2.2.2.2.1 :: ZA db k ζ.2.2.2.2.2) (fun (ζ : (Nat) × (Hp) × (Pgs) × (List MapEntry) × (Nat) × (DS)) => ζ.1 ≤ n ∧ ρ1.le ζ.2.1 ∧ MpIn ζ.2.1 ζ.2.2.2.1 ζ.2.2.1 ∧ vw ζ.2.2.1 = Wl held (vw pg) (l.take ζ.1) ∧ DOk k ζ.2.2.2.2.2 ∧ Lv D ζ.2.2.2.2.2 ∧ FO ζ.2.2.2.2.2 base t held) (fun (ζ : (Nat) × (Hp) × (Pgs) × (List MapEntry) × (Nat) × (DS)) => n - ζ.1) ((0, ρ1, pg, es, ck, D)) (⟨Nat.zero_le _, Hp.le_refl _, hm1, rfl, hD, hL, hF⟩) Zo Zo rfl tk ?_
     rintro ⟨i, ρ2, pg2, es2, ck2, D2⟩ hI
     try simp only [List.cons_append, List.nil_append, List.append_assoc, List.append_eq] at hI ⊢
     try dsimp only at hI ⊢
     obtain ⟨hi, hl2, hm2, hvw, hD2, hL2, hF2⟩ := hI
     by_cases hlt : i < n
     ·have hil : i < l.length := by omega
      obtain ⟨b, off, C, T, fr, e1, hb0, hfit, hc⟩ := (h1.mono hl2).at'.get hil
      have htk := take_snoc l i hil
      have hpn := hpages _ (List.getElem_mem hil)
      rw [e1]
      generalize l[i] = x at *
      obtain ⟨xp, xw, xc⟩ := x
      dsimp only at hpn
      obtain ⟨num, rfl⟩ : ∃ m : Nat, xp = m := ⟨xp.toNat, by omega⟩
      have hh := hold_lv ρ2 pb fb lb mb db base num t (Hp.at' hl2 hp1) (hf1.mono hl2) hb (by omega) k D2 hD2 pg2 es2 ck2 hm2 held hF2 hL2.next
      repeat' (first | (refine Zc (.func 71) ?_; refine qC rfl rfl hh ?_; rintro v3 ρ3 L3 hle3 ⟨hl3, g, es3, ck3, pg3, D3, rfl, hg, hm3, hv3, hD3, hL3, hF3, rfl⟩; try simp only [List.cons_append, List.nil_append, List.append_assoc, List.append_eq]) | (refine iBu ?_; refine ZL (Zn rfl) rfl rfl ?_) | (refine Zg ?_; first | (refine Zf ?_; refine qQ ?_) | refine Zj ?_) | refine Za ?_ | (refine Zh ?_; refine Zu ?_) | (refine Zi ?_; refine Zv ?_) | intro _)
      rw [← e1]
      refine Zx (i + 1, ρ3, pg3, es3, ck3, D3) (⟨hlt, Hp.le_trans hl2 hl3, hm3, by dsimp only; rw [htk, holdsV_snoc, hv3, hvw], hD3, hL2.trans hL3, hF3⟩) Zo Zo rfl tk inferInstance (by first | omega | (dsimp only; omega))
     ·have hi2 : i = l.length := by omega
      rw [hi2, List.take_length] at hvw
      have hl12 := Hp.le_trans hl1 hl2
      repeat' (first | (refine iBu ?_; refine ZL (Zn rfl) rfl rfl ?_) | (refine Zg ?_; first | (refine Zf ?_; refine qQ ?_) | refine Zj ?_) | refine Za ?_ | (refine Zh ?_; refine Zu ?_) | (refine Zi ?_; refine Zv ?_) | intro _)
      clear hi hi2 hlt
      refine ZH [(0, _), (1, _), (93, _), (94, _)] (fun (ζ : (Nat)) => [(95, .int .i64 ζ), (6, .int .i64 0)]) (fun (ζ : (Nat)) => ρ2) (fun (ζ : (Nat)) => YB lb rb S v :: Xf S v sp :: YD mb es2 ck2 :: ZA db k D2) (fun (ζ : (Nat)) => ζ ≤ n ∧ ∀ s ∈ l.take ζ, (XY held (Wl held (vw pg) l) s.page).2.1 < lsn) (fun (ζ : (Nat)) => n - ζ) (0) (⟨Nat.zero_le _, by simp⟩) Zo Zo rfl tk ?_
      rintro i hI
      try simp only [List.cons_append, List.nil_append, List.append_assoc, List.append_eq] at hI ⊢
      try dsimp only at hI ⊢
      obtain ⟨hi, hlo⟩ := hI
      by_cases hlt : i < n
      ·have hil : i < l.length := by omega
       obtain ⟨b, off, C, T, fr, e1, hb0, hfit, hc⟩ := (h1.mono hl2).at'.get hil
       have htk := take_snoc l i hil
       have hmem := List.getElem_mem hil
       have hp2 := Hp.at' hl2 hp1
       have hkk := hm2.keys
       obtain ⟨g, hg1, hg2⟩ : ∃ g, pg2 (l[i]).page = some g ∧ g.lsn = (XY held (Wl held (vw pg) l) (l[i]).page).2.1 := by
        have h5 := holdsV_mem held l (vw pg) _ hmem
        rw [← hvw] at h5
        obtain ⟨y, hy⟩ := Option.isSome_iff_exists.1 h5
        obtain ⟨g, q1, q2, q3, q4⟩ := vw_some hy
        refine ⟨g, q1, ?_⟩
        unfold XY
        rw [← hvw, hy, q3]; rfl
       have hget := hm2.get (l[i]).page
       rw [hg1] at hget
       simp only [Option.map_some] at hget
       have hbad : lsn ≤ g.lsn → l.any (fun s => decide (lsn ≤ (XY held (Wl held (vw pg) l) s.page).2.1)) = true := fun e => by
        rw [List.any_eq_true]; exact ⟨_, hmem, decide_eq_true (by rw [← hg2]; exact e)⟩
       have hnew : g.lsn < lsn → ∀ s ∈ l.take (i + 1), (XY held (Wl held (vw pg) l) s.page).2.1 < lsn := fun e s hs => by
        rw [htk] at hs
        rcases List.mem_append.1 hs with hs | hs
        ·exact hlo s hs
        ·rw [List.mem_singleton.1 hs, ← hg2]; exact e
       rw [e1]
       generalize l[i] = x at *
       by_cases hge : lsn ≤ g.lsn
       ·rw [if_pos (hbad hge)] at hE
        subst hE
        rw [← hvw] at hV
        subst hV
        repeat' (first | (refine iBu ?_; refine ZL (Zn rfl) rfl rfl ?_) | (refine Zg ?_; first | (refine Zf ?_; refine qQ ?_) | refine Zj ?_) | refine Za ?_ | (refine Zh ?_; refine Zu ?_) | (refine Zi ?_; refine Zv ?_) | intro _)
        rename_i bx
        refine Zz (Zr _ _ ([YD mb es2 ck2, [(bx, .cells ⟨sheV x⟩ 67 (0, 0))]])) (Zy (hT := tk) (Hp.le_refl _)) ?_
        all_goals (refine ZO 0 ?_; refine ZN ?_; refine rNc 1 ?_; refine Yv 2 ?_; refine ZX 3 ?_; refine Yv 4 ?_; refine ZX 5 ?_; refine rLu 6 ?_; refine rFl 7 ?_; refine ZO 8 ?_; refine rCm 9 ?_; refine ZI ?_)
        all_goals (repeat' (first | (refine iBu ?_; refine ZL (Zn rfl) rfl rfl ?_) | (refine Zg ?_; first | (refine Zf ?_; refine qQ ?_) | refine Zj ?_) | refine Za ?_ | (refine Zh ?_; refine Zu ?_) | (refine Zi ?_; refine Zv ?_) | intro _))
        all_goals exact qE (L' := YB lb rb S v :: Xf S v sp :: YD mb es2 ck2 :: ZA db k D2) ⟨rfl, hl12, es2, ck2, pg2, D2, hm2, rfl, hD2, hL2, hF2, rfl⟩
       ·repeat' (first | (refine iBu ?_; refine ZL (Zn rfl) rfl rfl ?_) | (refine Zg ?_; first | (refine Zf ?_; refine qQ ?_) | refine Zj ?_) | refine Za ?_ | (refine Zh ?_; refine Zu ?_) | (refine Zi ?_; refine Zv ?_) | intro _)
        rename_i bx
        refine Zz (Zr _ _ ([YD mb es2 ck2, [(bx, .cells ⟨sheV x⟩ 67 (0, 0))]])) (Zy (hT := tk) (Hp.le_refl _)) ?_
        all_goals (refine ZO 0 ?_; refine ZN ?_; refine rNc 1 ?_; refine Yv 2 ?_; refine ZX 3 ?_; refine Yv 4 ?_; refine ZX 5 ?_; refine rLu 6 ?_; refine rFl 7 ?_; refine ZO 8 ?_; refine rCm 9 ?_; refine ZI ?_)
        all_goals (repeat' (first | (refine iBu ?_; refine ZL (Zn rfl) rfl rfl ?_) | (refine Zg ?_; first | (refine Zf ?_; refine qQ ?_) | refine Zj ?_) | refine Za ?_ | (refine Zh ?_; refine Zu ?_) | (refine Zi ?_; refine Zv ?_) | intro _))
        all_goals rw [← e1]
        all_goals refine Zx (i + 1) (⟨hlt, hnew (by omega)⟩) Zo Zo rfl tk inferInstance (by first | omega | (dsimp only; omega))
      ·have hi2 : i = l.length := by omega
       rw [hi2, List.take_length] at hlo
       rw [if_neg (by
        rw [List.any_eq_true]
        rintro ⟨s, hs, hd⟩
        have h6 := hlo s hs
        have h7 := of_decide_eq_true hd
        omega)] at hE
       subst hE
       rw [← hvw] at hV
       subst hV
       repeat' (first | (refine iBu ?_; refine ZL (Zn rfl) rfl rfl ?_) | (refine Zg ?_; first | (refine Zf ?_; refine qQ ?_) | refine Zj ?_) | refine Za ?_ | (refine Zh ?_; refine Zu ?_) | (refine Zi ?_; refine Zv ?_) | intro _)
       exact qE (L' := YB lb rb S v :: Xf S v sp :: YD mb es2 ck2 :: ZA db k D2) ⟨rfl, hl12, es2, ck2, pg2, D2, hm2, rfl, hD2, hL2, hF2, rfl⟩
def newV (lsn : Nat) (pv : PV) (n : Int) (c : Yb) : PV := setV pv n (c, lsn, if ((pv n).getD (c, 0, 0)).2.2 = 0 then lsn else ((pv n).getD (c, 0, 0)).2.2)
def chgsV (lsn : Nat) : PV → List Sh → PV
 | pv, [] => pv
 | pv, s :: r => chgsV lsn (newV lsn pv s.page s.c) r
theorem chgsV_snoc (lsn : Nat) : ∀ (pv : PV) (l : List Sh) (s : Sh), chgsV lsn pv (l ++ [s]) = newV lsn (chgsV lsn pv l) s.page s.c
 | pv, [], s => rfl
 | pv, x :: r, s => by simp only [List.cons_append, chgsV]; exact chgsV_snoc lsn _ r s
theorem newV_has {lsn : Nat} {pv : PV} {n m : Int} {c : Yb} (h : (pv m).isSome) : (newV lsn pv n c m).isSome := by
 unfold newV setV; split
 ·rfl
 ·exact h
theorem chgsV_has {lsn : Nat} {m : Int} : ∀ (l : List Sh) {pv : PV}, (pv m).isSome → (chgsV lsn pv l m).isSome
 | [], pv, h => h
 | s :: r, pv, h => chgsV_has r (newV_has h)
def chgV (known : Bool) (held : Nat → Xc) (pv : PV) (lsn : Nat) (l : List Sh) : PV := if askE known held pv lsn l = 0 then chgsV lsn (askV known held pv l) l else askV known held pv l
theorem askE_zero {known : Bool} {held : Nat → Xc} {pv : PV} {lsn : Nat} {l : List Sh} (h : askE known held pv lsn l = 0) : known = true ∧ Vv (-1) l = true ∧ l.all (fun s => ZT s.c) = true ∧ askV known held pv l = Wl held pv l ∧ ∀ s ∈ l, (XY held (Wl held pv l) s.page).2.1 < lsn := by
 unfold askE at h
 split at h
 ·omega
 ·rename_i h1
  split at h
  ·omega
  ·rename_i h2
   split at h
   ·omega
   ·rename_i h3
    split at h
    ·omega
    ·rename_i h4
     refine ⟨by simpa using (not_or.1 h1).1, by simpa using h2, by simpa using h3, ?_, fun s hs => ?_⟩
     ·unfold askV; rw [if_neg h1, if_neg h2, if_neg h3]
     ·rcases Nat.lt_or_ge (XY held (Wl held pv l) s.page).2.1 lsn with h5 | h5
      ·exact h5
      ·exact absurd (List.any_eq_true.2 ⟨s, hs, decide_eq_true h5⟩) h4
theorem change17_spec (ρ : Hp) (pb fb lb mb rb db base t : Nat) (hp : PoIn ρ pb fb lb mb) (hf : FIn ρ fb db base) (hb : base ≤ 100000) (S : LgS) (v : Value) (sp : List Value) (hS : LgIn ρ S v sp) (k : DK) (D : DS) (hD : DOk k D) (pg : Pgs) (es : List MapEntry) (ck : Nat) (hm : MpIn ρ es pg) (held : Nat → Xc) (hF : FO D base t held) (hL : Lv1 D)
  (lsn : Nat) (a : Option Addr) (n c : Nat) (l : List Sh) (h : ShsIn ρ a n c l) :
  Spec Tryz.prog 26 [.pointer (some ⟨pb, 0, none⟩), .int .u64 (lsn : Nat), .slice a n c] ρ (YB lb rb S v :: Xf S v sp :: YD mb es ck :: ZA db k D)
   (fun z ρ' L' => z = .int .i64 (askE (recF S lsn).isSome held (vw pg) lsn l) ∧ ρ.le ρ' ∧ ∃ es' ck' pg' D', MpIn ρ' es' pg' ∧ vw pg' = chgV (recF S lsn).isSome held (vw pg) lsn l ∧ DOk k D' ∧ Lv D D' ∧ FO D' base t held ∧ L' = YB lb rb S v :: Xf S v sp :: YD mb es' ck' :: ZA db k D') := by
 have hl := h.at'.len
 have hbig := h.big
 have hask := asked_spec ρ pb fb lb mb rb db base t hp hf hb S v sp hS k D hD pg es ck hm held hF hL lsn a n c l h
 have hz := fun e => askE_zero (known := (recF S lsn).isSome) (held := held) (pv := vw pg) (lsn := lsn) (l := l) e
 unfold chgV
 generalize askE (recF S lsn).isSome held (vw pg) lsn l = E at *
 generalize askV (recF S lsn).isSome held (vw pg) l = V at *
 refine Ze Tryz.func26 rfl rfl rfl fun u R => ?_
 simp only [Zt, List.cons_append, List.nil_append]
 repeat' (first | (refine Zc (.func 63) ?_; refine qC rfl rfl hask ?_; rintro v1 ρ1 L1 hle1 ⟨rfl, hl1, es1, ck1, pg1, D1, hm1, hv1, hD1, hL1, hF1, rfl⟩; try simp only [List.cons_append, List.nil_append, List.append_assoc, List.append_eq]) | (refine iBu ?_; refine ZL (Zn rfl) rfl rfl ?_) | (refine Zg ?_; first | (refine Zf ?_; refine qQ ?_) | refine Zj ?_) | refine Za ?_ | (refine Zh ?_; refine Zu ?_) | (refine Zi ?_; refine Zv ?_) | intro _)
 by_cases hE : E = 0
 ·subst hE
  rw [show ((0 : Int) != 0) = false from rfl]
  simp only [if_true]
  obtain ⟨_, hrt, _, hV, _⟩ := hz rfl
  have h1 := h.mono hl1
  have hhas : ∀ s ∈ l, (V s.page).isSome := fun s hs => by rw [hV]; exact holdsV_mem held l (vw pg) s hs
  repeat' (first | (refine iBu ?_; refine ZL (Zn rfl) rfl rfl ?_) | (refine Zg ?_; first | (refine Zf ?_; refine qQ ?_) | refine Zj ?_) | refine Za ?_ | (refine Zh ?_; refine Zu ?_) | (refine Zi ?_; refine Zv ?_) | intro _)
  clear hz hask
  refine ZH [(0, _), (1, _), (20, _), (21, _)] (fun (ζ : (Nat) × (Hp) × (Pgs) × (List MapEntry) × (Nat)) => [(22, .int .i64 ζ.1), (6, .int .i64 0)]) (fun (ζ : (Nat) × (Hp) × (Pgs) × (List MapEntry) × (Nat)) => ζ.2.1) (fun (ζ : (Nat) × (Hp) × (Pgs) × (List MapEntry) × (Nat)) => YB lb rb S v :: Xf S v sp :: YD mb ζ.2.2.2.1 ζ.2.2.2.2 :: ZA db k D1) (fun (ζ : (Nat) × (Hp) × (Pgs) × (List MapEntry) × (Nat)) => ζ.1 ≤ n ∧ ρ1.le ζ.2.1 ∧ MpIn ζ.2.1 ζ.2.2.2.1 ζ.2.2.1 ∧ vw ζ.2.2.1 = chgsV lsn V (l.take ζ.1)) (fun (ζ : (Nat) × (Hp) × (Pgs) × (List MapEntry) × (Nat)) => n - ζ.1) ((0, ρ1, pg1, es1, ck1)) (⟨Nat.zero_le _, Hp.le_refl _, hm1, hv1⟩) Zo Zo rfl tk ?_
  rintro ⟨i, ρ2, pg2, es2, ck2⟩ hI
  try simp only [List.cons_append, List.nil_append, List.append_assoc, List.append_eq] at hI ⊢
  try dsimp only at hI ⊢
  obtain ⟨hi, hl2, hm2, hvw⟩ := hI
  by_cases hlt : i < n
  ·have hil : i < l.length := by omega
   obtain ⟨b, off, C, T, fr, e1, hb0, hfit, hc⟩ := (h1.mono hl2).at'.get hil
   have htk := take_snoc l i hil
   have hmem := List.getElem_mem hil
   have hp2 := Hp.at' (Hp.le_trans hl1 hl2) hp
   have hkk := hm2.keys
   have huu := hm2.uk
   have hcs := (h1.mono hl2).cin _ hmem
   obtain ⟨g, hg1, hg2⟩ : ∃ g, pg2 (l[i]).page = some g ∧ ((vw pg2 (l[i]).page).getD ((l[i]).c, 0, 0)).2.2 = g.rc := by
    have h5 := chgsV_has (lsn := lsn) (l.take i) (hhas _ hmem)
    rw [← hvw] at h5
    obtain ⟨y, hy⟩ := Option.isSome_iff_exists.1 h5
    obtain ⟨g, q1, q2, q3, q4⟩ := vw_some hy
    exact ⟨g, q1, by rw [hy, q4]; rfl⟩
   have hget := hm2.get (l[i]).page
   rw [hg1] at hget
   simp only [Option.map_some] at hget
   rw [e1]
   generalize l[i] = x at *
   obtain ⟨xp, xw, xc⟩ := x
   dsimp only at hcs hg1 hg2 hget hmem
   have hcp := fun {ρ' : Hp} (hle : ρ2.le ρ') => copied_spec ρ' xc.kind xw xc.rows xc.kids (hcs.mono hle)
   obtain ⟨gc, gw, glsn, grc⟩ := g
   dsimp only at hg2
   repeat' (first | (refine iBu ?_; refine ZL (Zn rfl) rfl rfl ?_) | (refine Zg ?_; first | (refine Zf ?_; refine qQ ?_) | refine Zj ?_) | refine Za ?_ | (refine Zh ?_; refine Zu ?_) | (refine Zi ?_; refine Zv ?_) | intro _)
   rename_i bx
   refine Zz (Zr _ _ ([YD mb es2 ck2, [(bx, .cells ⟨sheV ⟨xp, xw, xc⟩⟩ 67 (0, 0))]])) (Zy (hT := tk) (Hp.le_refl _)) ?_
   all_goals (refine ZO 0 ?_; refine rNc 1 ?_; refine Yv 2 ?_; refine ZX 3 ?_; refine Yv 4 ?_; refine ZX 5 ?_; refine rLu 6 ?_)
   all_goals (refine Zm (i := 7) ?_; ((try refine Zk ?_); (first | (refine Zj ?_; try intro _)) <;> ((try simp only [kM, kN, kO]); refine Za ?_; refine Zl ?_)))
   all_goals (refine Zm (i := 8) ?_; ((try refine Zk ?_); (first | (refine Zj ?_; try intro _)) <;> ((try simp only [kM, kN, kO]); refine Za ?_; refine Zl ?_)))
   all_goals refine ZI ?_
   all_goals (repeat' (first | (refine Zc (.func 64) ?_; refine qC rfl rfl (hcp (Hp.le_refl _)) ?_; rintro v3 ρ3 L3 hle3 ⟨hl3, w3, rfl, hC3, rfl⟩; have hp3 := Hp.at' hl3 hp2; simp only [List.cons_append, List.nil_append]) | (refine iBu ?_; refine ZL (Zn rfl) rfl rfl ?_) | (refine Zg ?_; first | (refine Zf ?_; refine qQ ?_) | refine Zj ?_) | refine Za ?_ | (refine Zh ?_; refine Zu ?_) | (refine Zi ?_; refine Zv ?_) | intro _))
   dsimp only
   rename_i bg
   have hl3' := Hp.le_trans hl2 hl3
   have hput := fun {es' : List MapEntry} {r : Nat} h1 h2 h3 => (hm2.mono hl3).put (n := xp) (g := ⟨xc, w3, lsn, r⟩) (es' := es') h1 h2 h3 hC3
   have hnew : ∀ r, r = (if grc = 0 then lsn else grc) → vw (updG pg2 xp ⟨xc, w3, lsn, r⟩) = chgsV lsn V (l.take (i + 1)) := fun r hr => by
    rw [vw_upd, htk, chgsV_snoc, ← hvw]
    unfold newV
    rw [hg2, hr]
   by_cases h0 : grc = 0
   ·rw [if_pos h0] at hnew
    rw [show (((grc : Nat) : Int) == 0) = true by simpa using h0]
    repeat' (first | (refine iBu ?_; refine ZL (Zn rfl) rfl rfl ?_) | (refine Zg ?_; first | (refine Zf ?_; refine qQ ?_) | refine Zj ?_) | refine Za ?_ | (refine Zh ?_; refine Zu ?_) | (refine Zi ?_; refine Zv ?_) | intro _)
    refine Zz (Zr _ _ ([[(bg, .cells ⟨pgV ⟨xc, w3, lsn, lsn⟩⟩ 132 (0, 0))], [(bx, .cells ⟨sheV ⟨xp, xw, xc⟩⟩ 67 (0, 0))]])) (Zy (hT := tk) (Hp.le_refl _)) ?_
    all_goals (refine ZO 0 ?_; refine rNc 1 ?_; refine Yv 2 ?_; refine ZX 3 ?_; refine Yv 4 ?_; refine ZX 5 ?_; refine ZX 6 ?_)
    all_goals (refine Zm (i := 7) ?_; ((try refine Zk ?_); (first | (refine WS rfl rfl rfl hkk huu (fun es' ck' q1 q2 q3 => ?_)) | (refine Zj ?_; try intro _)) <;> ((try simp only [kM, kN, kO]); refine Za ?_; refine Zl ?_)))
    all_goals refine ZI ?_
    all_goals (repeat' (first | (refine iBu ?_; refine ZL (Zn rfl) rfl rfl ?_) | (refine Zg ?_; first | (refine Zf ?_; refine qQ ?_) | refine Zj ?_) | refine Za ?_ | (refine Zh ?_; refine Zu ?_) | (refine Zi ?_; refine Zv ?_) | intro _))
    all_goals rw [← e1]
    all_goals refine Zx (i + 1, ρ3, updG pg2 xp ⟨xc, w3, lsn, lsn⟩, es', ck') (⟨hlt, hl3', hput q1 q2 q3, hnew _ rfl⟩) Zo Zo rfl tk inferInstance (by first | omega | (dsimp only; omega))
   ·rw [if_neg h0] at hnew
    rw [show (((grc : Nat) : Int) == 0) = false by simpa using h0]
    repeat' (first | (refine iBu ?_; refine ZL (Zn rfl) rfl rfl ?_) | (refine Zg ?_; first | (refine Zf ?_; refine qQ ?_) | refine Zj ?_) | refine Za ?_ | (refine Zh ?_; refine Zu ?_) | (refine Zi ?_; refine Zv ?_) | intro _)
    refine Zz (Zr _ _ ([[(bg, .cells ⟨pgV ⟨xc, w3, lsn, grc⟩⟩ 132 (0, 0))], [(bx, .cells ⟨sheV ⟨xp, xw, xc⟩⟩ 67 (0, 0))]])) (Zy (hT := tk) (Hp.le_refl _)) ?_
    all_goals (refine ZO 0 ?_; refine rNc 1 ?_; refine Yv 2 ?_; refine ZX 3 ?_; refine Yv 4 ?_; refine ZX 5 ?_; refine ZX 6 ?_)
    all_goals (refine Zm (i := 7) ?_; ((try refine Zk ?_); (first | (refine WS rfl rfl rfl hkk huu (fun es' ck' q1 q2 q3 => ?_)) | (refine Zj ?_; try intro _)) <;> ((try simp only [kM, kN, kO]); refine Za ?_; refine Zl ?_)))
    all_goals refine ZI ?_
    all_goals (repeat' (first | (refine iBu ?_; refine ZL (Zn rfl) rfl rfl ?_) | (refine Zg ?_; first | (refine Zf ?_; refine qQ ?_) | refine Zj ?_) | refine Za ?_ | (refine Zh ?_; refine Zu ?_) | (refine Zi ?_; refine Zv ?_) | intro _))
    all_goals rw [← e1]
    all_goals refine Zx (i + 1, ρ3, updG pg2 xp ⟨xc, w3, lsn, grc⟩, es', ck') (⟨hlt, hl3', hput q1 q2 q3, hnew _ rfl⟩) Zo Zo rfl tk inferInstance (by first | omega | (dsimp only; omega))
  ·have hi2 : i = l.length := by omega
   rw [hi2, List.take_length] at hvw
   repeat' (first | (refine iBu ?_; refine ZL (Zn rfl) rfl rfl ?_) | (refine Zg ?_; first | (refine Zf ?_; refine qQ ?_) | refine Zj ?_) | refine Za ?_ | (refine Zh ?_; refine Zu ?_) | (refine Zi ?_; refine Zv ?_) | intro _)
   exact qE (L' := YB lb rb S v :: Xf S v sp :: YD mb es2 ck2 :: ZA db k D1) ⟨rfl, Hp.le_trans hl1 hl2, es2, ck2, pg2, D1, hm2, hvw, hD1, hL1, hF1, rfl⟩
 ·have hcb : (E != 0) = true := by simpa using hE
  rw [hcb]
  simp only [if_neg hE]
  repeat' (first | (refine iBu ?_; refine ZL (Zn rfl) rfl rfl ?_) | (refine Zg ?_; first | (refine Zf ?_; refine qQ ?_) | refine Zj ?_) | refine Za ?_ | (refine Zh ?_; refine Zu ?_) | (refine Zi ?_; refine Zv ?_) | intro _)
  exact qE (L' := YB lb rb S v :: Xf S v sp :: YD mb es1 ck1 :: ZA db k D1) ⟨rfl, hl1, es1, ck1, pg1, D1, hm1, hv1, hD1, hL1, hF1, rfl⟩
def Xd (xs : List NP) : List CkP := (xs.filter (fun x => decide (x.2.rc ≠ 0))).map (fun x => ⟨x.1, x.2.rc⟩)
abbrev flatCk (l : List CkP) : List Value := (l.map ckPV).flatten
theorem dirtyL_len (xs : List NP) : (Xd xs).length ≤ xs.length := by unfold Xd; rw [List.length_map]; exact List.length_filter_le _ _
theorem dirtyL_yes {xs : List NP} {n : Nat} {g : Pg} (h : g.rc ≠ 0) : Xd (xs ++ [(n, g)]) = Xd xs ++ [⟨n, g.rc⟩] := by
 unfold Xd; rw [List.filter_append]; simp [h]
theorem dirtyL_no {xs : List NP} {n : Nat} {g : Pg} (h : g.rc = 0) : Xd (xs ++ [(n, g)]) = Xd xs := by
 unfold Xd; rw [List.filter_append]; simp [h]
theorem dirty17_spec (ρ : Hp) (pb fb lb mb : Nat) (hp : PoIn ρ pb fb lb mb) (pg : Pgs) (es : List MapEntry) (ck : Nat) (hm : MpIn ρ es pg) :
  Spec Tryz.prog 30 [.pointer (some ⟨pb, 0, none⟩)] ρ [YD mb es ck]
   (fun z ρ' L' => ρ.le ρ' ∧ ∃ sp', OwnS z (Xd (allG pg)).length (flatCk (Xd (allG pg))) sp' 2 ∧ L' = [YD mb es ck, Ym z (flatCk (Xd (allG pg))) sp' 72]) := by
 have h64 : (allG pg).length ≤ 64 := allTo_len pg 64
 refine Ze Tryz.func30 rfl rfl rfl fun u R => ?_
 simp only [Zt, List.cons_append, List.nil_append]
 repeat' (first | (refine Zc (.func 69) ?_; refine qC rfl rfl (all17_spec _ pb) ?_; rintro v1 ρ1 L1 hle1 ⟨b1, rfl, rfl, rfl⟩; simp only [List.cons_append, List.nil_append]) | (refine iBu ?_; refine ZL (Zn rfl) rfl rfl ?_) | (refine Zg ?_; first | (refine Zf ?_; refine qQ ?_) | refine Zj ?_) | refine Za ?_ | (refine Zh ?_; refine Zu ?_) | (refine Zi ?_; refine Zv ?_) | intro _)
 rename_i c3
 refine tc_rangeFunc (S := [bpC b1 pb, YD mb es ck]) (L0 := [[(c3, .cells ⟨[.slice none 0 0]⟩ 32 (0, 0))], Ym (.slice none 0 0) (flatCk (Xd [])) [] 72]) (R := R) (R0 := [(c3, .cells ⟨[.slice none 0 0]⟩ 32 (0, 0))] :: R) rfl rfl (all17_iter ρ1 b1 pb fb lb mb hp pg es ck hm) (Hp.le_refl _) (fun _ => rfl) rfl
   (fun pre ρ2 Lu => ρ1.le ρ2 ∧ ∃ z sp', OwnS z (Xd pre).length (flatCk (Xd pre)) sp' 2 ∧ Lu = [[(c3, .cells ⟨[z]⟩ 32 (0, 0))], Ym z (flatCk (Xd pre)) sp' 72])
   (fun c ρ2 Lu => False) ?k1 ?k2 ⟨Hp.le_refl _, _, [], OwnS.nil 2, rfl⟩ ?round ?done ?stop
 case k1 => exact tk
 case k2 => exact take_cons' Ya (take_cons' rem_nil' take_nil')
 case stop => rintro D0 c ρ2 Lu _ hf; exact hf.elim
 case round =>
  rintro l tm r pre y ρ2 Lu u R' hpre hl1 ⟨hl2, z, sp1, hown, rfl⟩ hr hrec
  simp only [envP, List.cons_append, List.nil_append]
  have hlen := hpre.length_le
  simp only [List.length_append, List.length_singleton] at hlen
  have hdl := dirtyL_len pre
  obtain ⟨za, zc, rfl, _⟩ := hown.slice
  obtain ⟨n, g⟩ := y
  have hone : (pgV g).length = 5 := rfl
  obtain ⟨gc, gw, glsn, grc⟩ := g
  repeat' (first | (refine iBu ?_; refine ZL (Zn rfl) rfl rfl ?_) | (refine Zg ?_; first | (refine Zf ?_; refine qQ ?_) | refine Zj ?_) | refine Za ?_ | (refine Zh ?_; refine Zu ?_) | (refine Zi ?_; refine Zv ?_) | intro _)
  refine ZV [(l, .loop r)] ?_
  refine te_begin rfl hr (fun r' hbz hrec' => ?_)
  by_cases h0 : grc = 0
  ·have h0' : ((grc : Nat) : Int) = 0 := by omega
   repeat' (first | (refine iBu ?_; refine ZL (Zn rfl) rfl rfl ?_) | (refine Zg ?_; first | (refine Zf ?_; refine qQ ?_) | refine Zj ?_) | refine Za ?_ | (refine Zh ?_; refine Zu ?_) | (refine Zi ?_; refine Zv ?_) | intro _)
   refine ZV [(l, .loop r')] ?_
   refine Vx (Lu := [[(c3, .cells ⟨[.slice za (Xd pre).length zc]⟩ 32 (0, 0))], Ym (.slice za (Xd pre).length zc) (flatCk (Xd pre)) sp1 72]) rfl (Hp.le_refl _) ⟨hrec'.tmps.trans hrec.tmps, hrec'.params.trans hrec.params, hrec'.assign.trans hrec.assign, hrec'.body.trans hrec.body⟩ tk tk inferInstance ?_
   rw [dirtyL_no h0]
   exact ⟨hl2, _, sp1, hown, rfl⟩
  ·have h0' : ¬ ((grc : Nat) : Int) = 0 := by omega
   repeat' (first | (refine Yi (css := [ckPV ⟨n, grc⟩]) (sz := 2) rfl rfl rfl rfl (by simp) (by simp) rfl (fun bs => ?_); simp only [List.flatten_cons, List.flatten_nil, List.append_nil]) | (refine YQ (ys := ckPV ⟨n, grc⟩) (m := 1) (sz := 2) rfl rfl hown (hR := by repeat (first | exact Ya | apply Yn)) SrcV.lit rfl rfl (by decide) rfl (by omega) (by omega) rfl (fun v' sp' hown' => ?_); obtain ⟨a', cap', rfl, hvl⟩ := hown'.slice) | (refine iBu ?_; refine ZL (Zn rfl) rfl rfl ?_) | (refine Zg ?_; first | (refine Zf ?_; refine qQ ?_) | refine Zj ?_) | refine Za ?_ | (refine Zh ?_; refine Zu ?_) | (refine Zi ?_; refine Zv ?_) | intro _)
   rw [show flatCk (Xd pre) ++ ckPV ⟨n, grc⟩ = flatCk (Xd pre ++ [⟨n, grc⟩]) by simp [flatCk]] at hown' ⊢
   refine ZV [(l, .loop r')] ?_
   refine Vx (Lu := [[(c3, .cells ⟨[.slice a' ((Xd pre).length + 1) cap']⟩ 32 (0, 0))], Ym (.slice a' ((Xd pre).length + 1) cap') (flatCk (Xd pre ++ [⟨n, grc⟩])) sp' 72]) rfl (Hp.le_refl _) ⟨hrec'.tmps.trans hrec.tmps, hrec'.params.trans hrec.params, hrec'.assign.trans hrec.assign, hrec'.body.trans hrec.body⟩ tk tk inferInstance ?_
   rw [dirtyL_yes h0]
   exact ⟨hl2, _, sp', by simpa using hown', rfl⟩
 case done =>
  rintro D0 ρ2 Lu hl1 ⟨hl2, z, sp1, hown, rfl⟩
  simp only [List.cons_append, List.nil_append]
  obtain ⟨za, zc, rfl, _⟩ := hown.slice
  repeat' (first | (refine iBu ?_; refine ZL (Zn rfl) rfl rfl ?_) | (refine Zg ?_; first | (refine Zf ?_; refine qQ ?_) | refine Zj ?_) | refine Za ?_ | (refine Zh ?_; refine Zu ?_) | (refine Zi ?_; refine Zv ?_) | intro _)
  refine ZV [(D0, .deferred (some []))] ?_
  exact Wa rfl rfl rfl inferInstance (res1 rfl (Yt rfl)) hl2 tk (by infer_instance) (L' := [YD mb es ck, Ym (.slice za (Xd (allG pg)).length zc) (flatCk (Xd (allG pg))) sp1 72]) ⟨hl2, sp1, hown, rfl⟩
theorem RO.frame {R : RgS} {D D' : DS} (h : RO R D) (hok : D'.Ok) (ha : D'.dead = false) (he : YI D'.secs) (hl : D'.secs.length = D.secs.length) (hi : ∀ i, i < R.h.size + 2 → img D' i = img D i) : RO R D' := by
 have hsz := h.ok.size
 have hm : ∀ x, 2 + x % R.h.size < R.h.size + 2 := fun x => by have := Nat.mod_lt x (show 0 < R.h.size by omega); omega
 refine ⟨h.ok, h.live, h.num, hok, ha, he, by rw [hl]; exact h.len, ?_, ?_, h.has.frame rfl (fun j _ => hi _ (hm _)), ?_, fun q hq => by rw [hi _ (by omega)]; exact h.bound q hq⟩
 ·rw [hi _ (by omega)]; exact h.head
 ·rw [hi _ (by omega)]; exact h.other
 ·intro hlt t b h1 h2 h3 h4
  obtain ⟨k, hk, hne⟩ := h.none hlt t b h1 h2 h3 h4
  exact ⟨k, hk, by rw [hi _ (hm _)]; exact hne⟩
theorem Good.frame {R : RgS} {D D' : DS} (h : Good R D) (hok : D'.Ok) (hc : D'.Calm) (he : YI D'.secs) (hl : D'.secs.length = D.secs.length) (hi : ∀ i, i < R.h.size + 2 → img D' i = img D i) : Good R D' :=
 ⟨h.ro.frame hok hc.dead he hl hi, fun q hq => by rw [hi _ (by omega)]; exact h.frs q hq, hc⟩
theorem FO.frame {D D' : DS} {base t : Nat} {held : Nat → Xc} (h : FO D base t held) (hok : D'.Ok) (ha : D'.dead = false) (he : YI D'.secs) (hl : D'.secs.length = D.secs.length) (hi : ∀ i, base ≤ i → i < base + 256 → img D' i = img D i) : FO D' base t held := by
 have hp : ∀ num j, num < 64 → j < 4 → pg D' base num j = pg D base num j := fun num j h1 h2 => hi _ (by omega) (by omega)
 refine ⟨hok, ha, he, by rw [hl]; exact h.len, fun num j h1 h2 => by rw [hp num j h1 h2]; exact h.sec num j h1 h2, fun num h1 => ?_⟩
 unfold csD
 rw [hp num 0 h1 (by omega), hp num 1 h1 (by omega), hp num 2 h1 (by omega), hp num 3 h1 (by omega)]
 exact h.held num h1
theorem writeF_frame {D : DS} {base t : Nat} {held : Nat → Xc} (h : FO D base t held) (hc : D.Calm) {num lsn : Nat} {c : Yb} (hn : num < 64) (ht : t + 1 < M64) :
  (XJ D base num lsn c).2 = 0 ∧ (XJ D base num lsn c).1.Calm ∧ YI (XJ D base num lsn c).1.secs ∧ (XJ D base num lsn c).1.secs.length = D.secs.length ∧ ∀ i, i < base ∨ base + 256 ≤ i → img (XJ D base num lsn c).1 i = img D i := by
 obtain ⟨w0, w1⟩ := writeF_calm (lsn := lsn) (c := c) h hc hn ht
 have hln := h.len
 have hL : base + 4 * num + 4 ≤ D.secs.length := by omega
 obtain ⟨e1, e2⟩ := countsD_calm hc hL
 have hv := countsD_val h.empty h.alive hL e1
 have hs1 := Vq (D := D) (base := base) (num := num)
 obtain ⟨m1, m2, _⟩ := csD_most h hn (by omega)
 refine ⟨w0, w1, ?_⟩
 unfold XJ
 rw [if_neg (by simp [e1]), hv]
 dsimp only
 rw [if_neg (by unfold M64 at ht; omega)]
 have hidx : ∀ p ∈ YW (base + 4 * num + 2 * (csD D base num).other) (ZP num ((csD D base num).most + 1) lsn c 0) (ZP num ((csD D base num).most + 1) lsn c 1), base ≤ p.1 ∧ p.1 < base + 256 := fun p hp => by
  simp only [YW, List.mem_cons, List.not_mem_nil, or_false] at hp
  rcases hp with rfl | rfl <;> dsimp only <;> omega
 obtain ⟨l0, l1, l2⟩ := XT (YW (base + 4 * num + 2 * (csD D base num).other) (ZP num ((csD D base num).most + 1) lsn c 0) (ZP num ((csD D base num).most + 1) lsn c 1)) (ZE D base num).2.1 e2 (fun p hp => by
  rw [hs1]; have := hidx p hp; omega)
 refine ⟨by rw [l2]; exact Yo, by rw [Xb, hs1], fun i hi => ?_⟩
 rcases Xy (s := (ZE D base num).2.1.secs) (by rw [hs1]; exact h.empty) l2 D hs1.symm i with e | ⟨p, hp, h1, _⟩
 ·exact e
 ·have := hidx p hp; omega
theorem FO.formatL {D : DS} {base : Nat} (hc : D.Calm) (he : YI D.secs) (hl : base + 256 ≤ D.secs.length) :
  YI (DS.lays (ZQ base) D).1.secs ∧ (DS.lays (ZQ base) D).1.secs.length = D.secs.length ∧ ∀ i, i < base ∨ base + 256 ≤ i → img (DS.lays (ZQ base) D).1 i = img D i := by
 have hidx : ∀ p ∈ ZQ base, base ≤ p.1 ∧ p.1 < base + 256 := fun p hp => by
  simp only [ZQ, List.mem_map, List.mem_range] at hp
  obtain ⟨k, hk, rfl⟩ := hp
  dsimp only; omega
 obtain ⟨l0, l1, l2⟩ := XT (ZQ base) D hc (fun p hp => by have := hidx p hp; omega)
 refine ⟨by rw [l2]; exact Yo, Xb _ _, fun i hi => ?_⟩
 rcases Xy he l2 D rfl i with e | ⟨p, hp, h1, _⟩
 ·exact e
 ·have := hidx p hp; omega
def begR (lsn : Nat) (txn : Nat) : Rc := ⟨1, lsn, txn, 0, 0, [], [], 0, [], []⟩
abbrev begX (lsn txn : Nat) : RR := (zRR.1, begR lsn txn)
theorem begR_in {ρ : Hp} (lsn txn : Nat) : RcIn ρ zRR.1 (begR lsn txn) := ⟨AS.nil, by simp [begR], AS.nil, AS.nil, AS.nil, by simp [begR]⟩
theorem begR_ok {lsn txn : Nat} (h1 : 1 ≤ lsn) (h2 : lsn ≤ 1099511627776) (h3 : 1 ≤ txn) (h4 : txn ≤ 1073741824) : Wo (begR lsn txn) = true := by
 unfold Wo begR headOk askOk bareOk
 simp only [Bool.and_eq_true, decide_eq_true_eq]
 refine ⟨by omega, ⟨by omega, by omega, by omega, by omega, by omega, by simp; omega, by simp⟩, by simp, by simp⟩
theorem begR_len (lsn txn : Nat) : (WN (begR lsn txn)).length = 21 := by simp [WN, recHB, recTB, begR, Zw]
theorem begR_cost {lsn txn : Nat} (h : Wo (begR lsn txn) = true) : costN (begR lsn txn) = 1 := by
 rw [costN_ok h, begR_len]; rfl
theorem LgIn.at {ρ S v sp} (h : LgIn ρ S v sp) (R : RgS) (f : Nat) : LgIn ρ (S.at R f) v sp := ⟨h.own, h.rin, h.ok, h.used, h.base⟩
abbrev Xo (s m : Nat) : List RR := (List.range' s m).map (fun i => begX i 1)
theorem begL_len (s m : Nat) : (Xo s m).length = m := by simp [Xo]
theorem begL_snoc (m : Nat) : Xo 1 m ++ [begX (m + 1) 1] = Xo 1 (m + 1) := by
 unfold Xo
 rw [List.range'_1_concat, List.map_append]
 simp [Nat.add_comm]
theorem begL_mem {s m : Nat} {x : RR} (h : x ∈ Xo s m) : ∃ i, s ≤ i ∧ i < s + m ∧ x = begX i 1 := by
 obtain ⟨i, hi, rfl⟩ := List.mem_map.1 h
 rw [List.mem_range'_1] at hi
 exact ⟨i, hi.1, hi.2, rfl⟩
theorem begL_used (s m : Nat) (h1 : 1 ≤ s) (h2 : s + m ≤ 1000) : Wf (Xo s m) = m := by
 induction m generalizing s with
 | zero => rfl
 | succ m ih =>
  have e : Xo s (m + 1) = begX s 1 :: Xo (s + 1) m := by simp [Xo, List.range'_succ]
  rw [e]
  have := ih (s + 1) (by omega) (by omega)
  have hc := begR_cost (lsn := s) (txn := 1) (begR_ok h1 (by omega) (by omega) (by omega))
  simp only [Wf, List.map_cons, List.sum_cons] at this ⊢
  rw [this, hc]; omega
def pS (R : RgS) (fl m : Nat) : LgS := ⟨R, 1, fl, 0, 1, Xo 1 m⟩
theorem pS_next (R : RgS) (fl m : Nat) : (pS R fl m).next = m + 1 := by simp [pS, LgS.next]; omega
theorem pS_more (R : RgS) (fl m : Nat) : (pS R fl m).more (begX (m + 1) 1) = pS R fl (m + 1) := by
 unfold LgS.more pS; rw [begL_snoc]
theorem pS_app (R : RgS) (fl m : Nat) (hm : m < 300) : appE (pS R fl m) (begR (m + 1) 1) 0 = 0 := by
 have hok := begR_ok (lsn := m + 1) (txn := 1) (by omega) (by omega) (by omega) (by omega)
 have hu : Wf (pS R fl m).recs = m := begL_used 1 m (by omega) (by omega)
 unfold appE
 rw [hok, if_neg (by simp), begR_cost hok, hu, pS_next, if_neg (by simp [begR]), if_neg (by omega)]
theorem filter_beg : ∀ (m s lsn : Nat), (Xo s m).filter (fun x => decide (lsn ≤ x.2.lsn)) = Xo (max s lsn) (s + m - max s lsn)
 | 0, s, lsn => by simp [Xo, show s - max s lsn = 0 by omega]
 | m + 1, s, lsn => by
  have e : Xo s (m + 1) = begX s 1 :: Xo (s + 1) m := by simp [Xo, List.range'_succ]
  rw [e, List.filter_cons, filter_beg m (s + 1) lsn]
  by_cases h : lsn ≤ s
  ·rw [if_pos (show decide (lsn ≤ (begX s 1).2.lsn) = true from decide_eq_true h)]
   rw [show max (s + 1) lsn = s + 1 by omega, show max s lsn = s by omega, show s + (m + 1) - s = m + 1 by omega, show s + 1 + m - (s + 1) = m by omega]
   simp [Xo, List.range'_succ]
  ·rw [if_neg (show ¬ decide (lsn ≤ (begX s 1).2.lsn) = true from fun e => h (of_decide_eq_true e)), show max (s + 1) lsn = max s lsn by omega, show s + 1 + m = s + (m + 1) by omega]
theorem pS_rec (R : RgS) (fl m lsn : Nat) : (recF (pS R fl m) lsn).isSome = decide (1 ≤ lsn ∧ lsn ≤ m) := by
 unfold recF fromL pS
 rw [filter_beg]
 cases hk : 1 + m - max 1 lsn with
 | zero =>
  rw [decide_eq_false (by omega)]; rfl
 | succ k =>
  have e : Xo (max 1 lsn) (k + 1) = begX (max 1 lsn) 1 :: Xo (max 1 lsn + 1) k := by simp [Xo, List.range'_succ]
  rw [e]
  show (if max 1 lsn = lsn then some (begX (max 1 lsn) 1) else none).isSome = _
  by_cases h : 1 ≤ lsn
  ·rw [if_pos (by omega), decide_eq_true ⟨h, by omega⟩]; rfl
  ·rw [if_neg (by omega), decide_eq_false (by omega)]; rfl
theorem upTo_beg : ∀ (m s to : Nat), upTo to (Xo s m) = Xo s (min m (to + 1 - s))
 | 0, s, to => by simp [Xo]
 | m + 1, s, to => by
  have e : Xo s (m + 1) = begX s 1 :: Xo (s + 1) m := by simp [Xo, List.range'_succ]
  have ih := upTo_beg m (s + 1) to
  unfold upTo at ih ⊢
  rw [e, List.takeWhile_cons]
  by_cases h : s ≤ to
  ·rw [if_pos (show decide ((begX s 1).2.lsn ≤ to) = true from decide_eq_true h), ih, show min (m + 1) (to + 1 - s) = min m (to + 1 - (s + 1)) + 1 by omega]
   simp [Xo, List.range'_succ]
  ·rw [if_neg (show ¬ decide ((begX s 1).2.lsn ≤ to) = true from fun e => h (of_decide_eq_true e)), show min (m + 1) (to + 1 - s) = 0 by omega]; rfl
theorem lastF_beg : ∀ (m s f : Nat), lastF f (Xo s m) = if m = 0 then f else s + m - 1
 | 0, s, f => rfl
 | m + 1, s, f => by
  have e : Xo s (m + 1) = begX s 1 :: Xo (s + 1) m := by simp [Xo, List.range'_succ]
  rw [e]
  show lastF s (Xo (s + 1) m) = _
  rw [lastF_beg m (s + 1) s]
  split
  ·rename_i h; subst h; simp
  ·rw [if_neg (by omega)]; omega
structure StoK (R : RgS) (fl m : Nat) (D : DS) (t : Nat) (held : Nat → Xc) : Prop where
 good : Good R D
 fo : FO D 902 t held
 head : R.h = ZY 450
 used : R.used = fl
 ents : R.ents.length = fl
 le : fl ≤ m
 few : m ≤ 300
theorem StoK.flush {R : RgS} {fl m : Nat} {D : DS} {t : Nat} {held : Nat → Xc} (h : StoK R fl m D t held) {to : Nat} (h1 : fl < to) (h2 : to ≤ m) :
  ∃ R' D', (pS R fl m).flush to D = (pS R' to m, D', 0) ∧ StoK R' to m D' t held ∧ D'.Calm := by
 have hle := h.le
 have hfw := h.few
 have hu := h.used
 have hsz : R.h.size = 450 := by rw [h.head]; rfl
 have hf1 : R.h.first = 1 := by rw [h.head]; rfl
 have hfr : fromL (pS R fl m) (fl + 1) = Xo (fl + 1) (m - fl) := by
  unfold fromL pS
  rw [filter_beg, show max 1 (fl + 1) = fl + 1 by omega, show 1 + m - (fl + 1) = m - fl by omega]
 obtain ⟨R', D', e, g', q1, q2, q3, q4, q5⟩ := flushL_good to (Xo (fl + 1) (m - fl)) R D fl h.good (fun x hx => by
  obtain ⟨i, h3, h4, rfl⟩ := begL_mem hx
  exact begR_ok (by omega) (by omega) (by omega) (by omega)) (by rw [begL_used _ _ (by omega) (by omega)]; omega) (by rw [begL_len]; unfold RgS.next; rw [hf1, h.ents]; omega)
 have hup : upTo to (Xo (fl + 1) (m - fl)) = Xo (fl + 1) (to - fl) := by rw [upTo_beg, show min (m - fl) (to + 1 - (fl + 1)) = to - fl by omega]
 rw [hup] at e q2 q3
 rw [lastF_beg, if_neg (by omega), show fl + 1 + (to - fl) - 1 = to by omega] at e
 rw [begL_used _ _ (by omega) (by omega)] at q3
 refine ⟨R', D', ?_, ⟨g', h.fo.frame g'.ro.dok g'.ro.alive g'.ro.empty q4 (fun i h3 h4 => q5 i (by omega)), by rw [q1, h.head], by omega, by rw [q2, List.length_append, List.length_map, begL_len, h.ents]; omega, h2, hfw⟩, g'.calm⟩
 unfold LgS.flush
 rw [pS_next, if_neg (by omega), show (pS R fl m).fl = fl from rfl, hfr, show (pS R fl m).R = R from rfl, e]
 rfl
theorem StoK.write {R : RgS} {fl m : Nat} {D : DS} {t : Nat} {held : Nat → Xc} (h : StoK R fl m D t held) {num lsn : Nat} {c : Yb} (hn : num < 64) (hc : Fit c) (hl : lsn < M64) (ht : t + 1 < M64) :
  ∃ D', XJ D 902 num lsn c = (D', 0) ∧ StoK R fl m D' (t + 1) (upd held num (c, lsn)) := by
 obtain ⟨w0, w1, w2, w3, w4⟩ := writeF_frame (lsn := lsn) (c := c) h.fo h.good.calm hn ht
 have hw := h.fo.write hn hc hl ht
 have hsz : R.h.size = 450 := by rw [h.head]; rfl
 exact ⟨_, Prod.ext rfl w0, h.good.frame hw.2.2 w1 w2 w3 (fun i hi => w4 i (by omega)), hw.1 w0, h.head, h.used, h.ents, h.le, h.few⟩
theorem StoK.lv {R : RgS} {fl m : Nat} {D D' : DS} {t : Nat} {held : Nat → Xc} (h : StoK R fl m D t held) (hl : Lv D D') (hf : FO D' 902 t held) : StoK R fl m D' t held :=
 ⟨h.good.frame hf.dok (hl.calm h.good.calm) hf.empty (by rw [hl.secs]) (fun i _ => by rw [XM hl.secs]), hf, h.head, h.used, h.ents, h.le, h.few⟩
theorem StoK.more {R : RgS} {fl m : Nat} {D : DS} {t : Nat} {held : Nat → Xc} (h : StoK R fl m D t held) (hm : m < 300) : StoK R fl (m + 1) D t held :=
 ⟨h.good, h.fo, h.head, h.used, h.ents, by have := h.le; omega, by omega⟩
theorem StoK.steal {R : RgS} {fl m : Nat} {D : DS} {t : Nat} {held : Nat → Xc} (h : StoK R fl m D t held) {num : Nat} {g : Pg} (hn : num < 64) (hc : Fit g.c) (hl : g.lsn ≤ m) (ht : t + 1 < M64) :
  ∃ R' D', Wt (pS R fl m) D 902 num g = (pS R' (max fl g.lsn) m, D', 0) ∧ StoK R' (max fl g.lsn) m D' (t + 1) (upd held num (g.c, g.lsn)) := by
 have hfw := h.few
 unfold Wt stealF
 by_cases hlt : fl < g.lsn
 ·obtain ⟨R1, D1, e1, k1, _⟩ := h.flush hlt hl
  obtain ⟨D2, e2, k2⟩ := k1.write (num := num) (lsn := g.lsn) (c := g.c) hn hc (by unfold M64; omega) ht
  rw [show (pS R fl m).fl = fl from rfl, if_pos hlt, e1]
  dsimp only
  rw [if_neg (by simp), e2, show max fl g.lsn = g.lsn by omega]
  exact ⟨R1, D2, rfl, k2⟩
 ·obtain ⟨D2, e2, k2⟩ := h.write (num := num) (lsn := g.lsn) (c := g.c) hn hc (by unfold M64; omega) ht
  rw [show (pS R fl m).fl = fl from rfl, if_neg hlt]
  dsimp only
  rw [if_neg (by simp), e2, show max fl g.lsn = fl by omega]
  exact ⟨R, D2, rfl, k2⟩
abbrev PaIn (ρ : Hp) (xb db fb lb pb : Nat) : Prop := ρ xb = some (.cells ⟨[.pointer (some ⟨db, 0, none⟩), .pointer (some ⟨fb, 0, none⟩), .pointer (some ⟨lb, 0, none⟩), .pointer (some ⟨pb, 0, none⟩)]⟩ 59 (0, 0))
theorem kformat17 (ρ : Hp) (db : Nat) (k : DK) (D : DS) (hk : DOk k D) (hc : D.Calm) (he : YI D.secs) (hl : 902 + 256 ≤ D.secs.length) :
  Spec Tryz.prog 62 [.pointer (some ⟨db, 0, none⟩), .int .i64 902] ρ (ZA db k D) (fun v ρ' L' => ρ.le ρ' ∧ ∃ fb k' D', v = .tuple ⟨[.pointer (some ⟨fb, 0, none⟩), .int .i64 0]⟩ ∧ FIn ρ' fb db 902 ∧ DOk k' D' ∧ FO D' 902 0 (fun _ => zHeld) ∧ D'.Calm ∧ YI D'.secs ∧ D'.secs.length = D.secs.length ∧ (∀ i, i < 902 → img D' i = img D i) ∧ L' = ZA db k' D') := by
 obtain ⟨e0, e1, e2⟩ := FO.format (base := 902) hk.ok hc he hl
 obtain ⟨g0, g1, g2⟩ := FO.formatL (base := 902) hc he hl
 refine (Format_spec ρ db k D hk 902 hl e0).mono ?_
 rintro v ρ' L' _ ⟨hle, fb, k', h3, h4, h5, h6⟩
 exact ⟨hle, fb, k', _, h3, h4, h5, e2, e1, g0, g1, fun i hi => g2 i (.inl hi), h6⟩
theorem begun17_spec (ρ : Hp) : Spec Tryz.prog 23 [] ρ [] (fun v ρ' L' => ρ.le ρ' ∧ ∃ xb db fb lb rb pb mb w k R D, v = .tuple ⟨[.pointer (some ⟨xb, 0, none⟩), .bool true]⟩ ∧ PaIn ρ' xb db fb lb pb ∧ PoIn ρ' pb fb lb mb ∧ FIn ρ' fb db 902 ∧ RIn ρ' R w ∧ DOk k D ∧ StoK R 0 0 D 0 (fun _ => zHeld) ∧
   L' = YD mb [] 0 :: YB lb rb (pS R 0 0) (.slice none 0 0) :: (Xe rb db R w ++ ZA db k D)) := by
 refine Ze Tryz.func23 rfl rfl rfl fun u R => ?_
 simp only [Zt, List.cons_append, List.nil_append]
 repeat' (first | (refine Zc (.func 44) ?_; refine qC rfl rfl (knew _ 1158 (by omega) (by omega)) ?_; rintro v ρ' L' hle ⟨rfl, db, k0, rfl, hk0, rfl⟩ <;> (try simp only [kM, kN, kO])) | (refine Zc (.func 8) ?_; refine qC rfl rfl (kformat16 _ 450 1158 (by omega) (by omega) (by omega) (by omega) db k0 hk0) ?_; rintro v1 ρ1 L1 hle1 ⟨hl1, lb, rb, w1, k1, D1, rfl, hk1, hr1, g1, hlen1, rfl⟩; try simp only [List.cons_append, List.nil_append, List.append_assoc, List.append_eq]) | (refine Zc (.func 62) ?_; refine qC rfl rfl (kformat17 _ db k1 D1 hk1 g1.calm g1.ro.empty (by omega)) ?_; rintro v2 ρ2 L2 hle2 ⟨hl2, fb, k2, D2, rfl, hf2, hk2, fo2, c2, em2, len2, im2, rfl⟩; try simp only [List.cons_append, List.nil_append, List.append_assoc, List.append_eq]) | (refine Zc (.func 34) ?_; refine qC rfl rfl (new17_spec _ fb lb) ?_; rintro v3 ρ3 L3 hle3 ⟨hl3, pb, mb, rfl, hp3, rfl⟩; try simp only [List.cons_append, List.nil_append, List.append_assoc, List.append_eq]) | (refine Zg ?_; first | (refine Zf ?_; refine qQ ?_) | refine Zj ?_) | refine Za ?_ | (refine Zh ?_; refine Zu ?_) | (refine Zi ?_; refine Zv ?_) | intro _)
 rename_i xb
 refine Xs [(xb, .cells ⟨[.pointer (some ⟨db, 0, none⟩), .pointer (some ⟨fb, 0, none⟩), .pointer (some ⟨lb, 0, none⟩), .pointer (some ⟨pb, 0, none⟩)]⟩ 59 (0, 0))] (h := Rem.here) (fun ρ4 hl4 hf4 => ?_)
 have hx := hf4 _ (List.mem_singleton.2 rfl)
 have hg2 : Good ⟨ZY 450, [], 0, false⟩ D2 := g1.frame hk2.ok c2 em2 len2 (fun i hi => im2 i (by have : ({ h := ZY 450, ents := [], used := 0, broken := false } : RgS).h.size = 450 := rfl; omega))
 have hfin := Hp.le_trans hl1 (Hp.le_trans hl2 (Hp.le_trans hl3 hl4))
 exact qE (L' := YD mb [] 0 :: YB lb rb (pS ⟨ZY 450, [], 0, false⟩ 0 0) (.slice none 0 0) :: (Xe rb db ⟨ZY 450, [], 0, false⟩ w1 ++ ZA db k2 D2)) ⟨Hp.le_trans hl1 (Hp.le_trans hl2 (Hp.le_trans hl3 hl4)), xb, db, fb, lb, rb, pb, mb, w1, k2, _, D2, rfl, hx, Hp.at' hl4 hp3, hf2.mono (Hp.le_trans hl3 hl4), hr1.mono (Hp.le_trans hl2 (Hp.le_trans hl3 hl4)), hk2, ⟨hg2, fo2, rfl, rfl, rfl, Nat.le_refl _, by omega⟩, rfl⟩
theorem pS_in {ρ : Hp} (R : RgS) : LgIn ρ (pS R 0 0) (.slice none 0 0) [] := newLg_in
theorem appends17_spec (ρ : Hp) (xb db fb lb rb pb : Nat) (hx : PaIn ρ xb db fb lb pb) (R : RgS) (fl m : Nat) (hm : m < 300) (v : Value) (sp : List Value) (h : LgIn ρ (pS R fl m) v sp) :
  Spec Tryz.prog 25 [.pointer (some ⟨xb, 0, none⟩)] ρ [YB lb rb (pS R fl m) v, Xf (pS R fl m) v sp]
   (fun z ρ' L' => z = .bool true ∧ ρ.le ρ' ∧ ∃ v' sp', LgIn ρ' (pS R fl (m + 1)) v' sp' ∧ L' = [YB lb rb (pS R fl (m + 1)) v', Xf (pS R fl (m + 1)) v' sp']) := by
 have ha := append16_yes ρ lb rb (pS R fl m) v sp h (begX (m + 1) 1) (begR_in _ _) 0 (pS_app R fl m hm)
 rw [pS_more] at ha
 have hn := next16_spec ρ lb rb (pS R fl m) v sp h
 rw [pS_next] at hn
 refine Ze Tryz.func25 rfl rfl rfl fun u R => ?_
 simp only [Zt, List.cons_append, List.nil_append]
 repeat' (first | (refine Zg ?_; first | (refine Zf ?_; refine qQ ?_) | refine Zj ?_) | refine Za ?_ | (refine Zh ?_; refine Zu ?_) | (refine Zi ?_; refine Zv ?_) | intro _)
 refine Zz (Zr _ _ ([])) (Zy (hT := tk) (Hp.le_refl _)) ?_
 all_goals (refine ZO 0 ?_; refine rNc 1 ?_; refine Yv 2 ?_; refine ZX 3 ?_; refine ZO 4 ?_; refine rNc 5 ?_; refine Yv 6 ?_; refine ZX 7 ?_)
 all_goals (refine Zm (i := 8) ?_; ((try refine Zk ?_); (first | (refine Zc (.func 16) ?_; refine qC rfl rfl (hn) ?_; rintro v ρ' L' hle ⟨rfl, rfl, rfl⟩ <;> (try simp only [kM, kN, kO])) | (refine Zj ?_; try intro _)) <;> ((try simp only [kM, kN, kO]); refine Za ?_; refine Zl ?_)))
 all_goals refine rBu 9 ?_
 all_goals (refine Zm (i := 10) ?_; ((try refine Zk ?_); (first | (refine Zc (.func 11) ?_; refine qC rfl rfl ha ?_; rintro v1 ρ1 L1 hle1 ⟨rfl, hl1, v', sp', hin, rfl⟩; try simp only [List.cons_append, List.nil_append, List.append_assoc, List.append_eq]) | (refine Zj ?_; try intro _)) <;> ((try simp only [kM, kN, kO]); refine Za ?_; refine Zl ?_)))
 all_goals (refine ZN ?_; refine rCm 11 ?_; refine rAs 12 ?_; refine ZI ?_)
 all_goals (repeat' (first | (refine Zg ?_; first | (refine Zf ?_; refine qQ ?_) | refine Zj ?_) | refine Za ?_ | (refine Zh ?_; refine Zu ?_) | (refine Zi ?_; refine Zv ?_) | intro _))
 all_goals exact qE (L' := [YB lb rb (pS _ fl (m + 1)) v', Xf (pS _ fl (m + 1)) v' sp']) ⟨rfl, hl1, v', sp', hin, rfl⟩
abbrev leaf7 : Yb := ⟨1, [⟨0, 1, 7, []⟩], []⟩
theorem leaf7_fit : Fit leaf7 := ⟨by decide, ⟨fun r hr => by simp at hr; subst hr; exact ⟨by decide, by decide⟩, fun k hk => by simp at hk⟩⟩
theorem leaf17_spec (ρ : Hp) : Spec Tryz.prog 61 [.int .i64 7] ρ [] (fun v ρ' L' => ρ.le ρ' ∧ ∃ w, v = .agg ⟨XF 1 w⟩ ∧ CIn ρ' w leaf7.rows leaf7.kids ∧ L' = []) := by
 refine Ze Tryz.func61 rfl rfl rfl fun u R => ?_
 simp only [Zt, List.cons_append, List.nil_append]
 repeat' (first | (refine ZL (Vz (vs := [.agg ⟨[.int .i64 0, .int .u16 1]⟩, .int .i64 7]) (cells := ⟨YT ⟨0, 1, 7, []⟩⟩) rfl rfl) rfl rfl ?_) | (refine Yi (css := [YT ⟨0, 1, 7, []⟩]) (sz := 4) rfl rfl rfl rfl (by simp) (by simp) rfl (fun bs => ?_); refine ZM [(bs, .cells ⟨([YT ⟨0, 1, 7, []⟩] : List (List Value)).flatten⟩ 130 (0, 0))] (h := Rem.here) (fun ρ1 hl1 hfz => ?_)) | (refine Zg ?_; first | (refine Zf ?_; refine qQ ?_) | refine Zj ?_) | refine Za ?_ | (refine Zh ?_; refine Zu ?_) | (refine Zi ?_; refine Zv ?_) | intro _)
 have hb := hfz _ (List.mem_singleton.2 rfl)
 have hA : AIn ρ1 4 YT (some ⟨bs, 0, none⟩) 1 leaf7.rows := ⟨rfl, .inr ⟨bs, 0, _, _, _, rfl, hb, by simp, by simp⟩, fun x hx => by simp at hx; subst hx; rfl⟩
 have hC : CIn ρ1 ⟨some ⟨bs, 0, none⟩, 1, 1, none, 0, 0⟩ leaf7.rows leaf7.kids := ⟨hA, AIn.nil, by dsimp only; omega, by dsimp only; omega, Nat.le_refl _, Nat.le_refl _⟩
 exact qE (L' := []) ⟨hl1, ⟨some ⟨bs, 0, none⟩, 1, 1, none, 0, 0⟩, rfl, hC, rfl⟩
end Go.Proofs.E
