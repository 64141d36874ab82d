/- The law FileWrites. Part 12 of 17. -/
import Derived.Test.YtaacalchpindlaaGreatP11
namespace Go.Proofs.E
open Go
set_option linter.unusedVariables false
set_option linter.unusedSimpArgs false
set_option linter.unusedSectionVars false
set_option maxRecDepth 4000
set_option maxHeartbeats 1000000
attribute [local irreducible] Yl TL TC TE Spec XM R1 Hp.le EnvLe TS TR YS Zo
theorem row_spec (ρ0 ρ : Hp) (fb base : Nat) (g : Nat) (cs : List Value) (S : SH) (xs : List (Nat × Blk)) (hl0 : ρ0.le ρ) (hI : Iter Tryz.prog g [] cs pencV ρ0 S xs) [hF : Fun Tryz.prog g] (h64 : ∀ p ∈ xs, p.2.length = 64) (b : Nat) (hf : FIn ρ fb b base) (k : DK) (D : DS) (hD : DOk k D) :
  Spec Tryz.prog 32 [.pointer (some ⟨fb, 0, none⟩), .func (.func g) ⟨[]⟩ ⟨cs⟩] ρ (S ++ ZF b k D) (fun v ρ' L' => v = .int .i64 (DS.lays xs D).2 ∧ ρ.le ρ' ∧ ∃ k', DOk k' (DS.lays xs D).1 ∧ L' = S ++ ZF b k' (DS.lays xs D).1) := by
 refine Zf Tryz.func32 rfl rfl rfl fun u R => ?_
 simp only [Zv, List.cons_append, List.nil_append, List.append_assoc]
 repeat' (first | (refine Zg ?_; first | (refine Ze ?_; refine qQ ?_) | refine Zj ?_ | refine qAn ?_ | refine qXo ?_ | refine qNt ?_) | refine Za ?_ | (refine Zh ?_; refine Zq ?_) | (refine Zi ?_; refine Zr ?_) | intro _)
 rename_i b2 b4
 refine tc_rangeFunc (S := S) (L0 := [[(b2, .cells ⟨[.pointer (some ⟨fb, 0, none⟩)]⟩ 30 (0, 0))], [(b4, .cells ⟨[.int .i64 0]⟩ 26 (0, 0))]] ++ ZF b k D) (R := R) (R0 := [(b4, .cells ⟨[.int .i64 0]⟩ 26 (0, 0))] :: [(b2, .cells ⟨[.pointer (some ⟨fb, 0, none⟩)]⟩ 30 (0, 0))] :: (ZF b k D ++ R)) rfl rfl hI hl0 (fun _ => rfl) rfl
  (fun pre ρ1 Lu => ∃ D1 k1, ρ.le ρ1 ∧ Wr D pre D1 ∧ DOk k1 D1 ∧ Lu = [[(b2, .cells ⟨[.pointer (some ⟨fb, 0, none⟩)]⟩ 30 (0, 0))], [(b4, .cells ⟨[.int .i64 0]⟩ 26 (0, 0))]] ++ ZF b k1 D1)
  (fun c ρ1 Lu => c = .exit 0 ∧ ∃ D2 k2 e, ρ.le ρ1 ∧ e ≠ 0 ∧ DS.lays xs D = (D2, e) ∧ DOk k2 D2 ∧ Lu = [[(b2, .cells ⟨[.pointer (some ⟨fb, 0, none⟩)]⟩ 30 (0, 0))], [(b4, .cells ⟨[.int .i64 e]⟩ 26 (0, 0))]] ++ ZF b k2 D2) ?k1 ?k2 ⟨D, k, Hp.le_refl _, .nil, hD, rfl⟩ ?round ?done ?stop
 case k1 => exact tk
 case k2 => exact tk
 case round =>
  rintro l tm r pre y ρ1 Lu u R' hpre hl1 ⟨D1, k1, hl2, hwr, hD1, rfl⟩ hr hrec
  simp only [envP, List.cons_append, List.nil_append]
  have hm64 := h64 y (hpre.subset (by simp))
  have hy1 := ZI y.2
  have hyl : (y.2.map Zs).length = 64 := by simpa using hm64
  repeat' (first | (refine Zg ?_; first | (refine Ze ?_; refine qQ ?_) | refine Zj ?_ | refine qAn ?_ | refine qXo ?_ | refine qNt ?_) | refine Za ?_ | (refine Zh ?_; refine Zq ?_) | (refine Zi ?_; refine Zr ?_) | intro _)
  refine Xj [(l, .loop r)] ?_
  refine te_begin rfl hr (fun r' hbz hrec' => ?_)
  rename_i b7
  have hfile := (hf.mono hl2).at'
  repeat' (first | (refine Zg ?_; first | (refine Ze ?_; refine qQ ?_) | refine Zj ?_ | refine qAn ?_ | refine qXo ?_ | refine qNt ?_) | refine Za ?_ | (refine Zh ?_; refine Zq ?_) | (refine Zi ?_; refine Zr ?_) | intro _)
  by_cases hc : (D1.write (y.1 : Int) y.2).2 = 0
  ·have hcb : ((D1.write (y.1 : Int) y.2).2 != 0) = false := by simpa using hc
   have hw2 := hwr.snoc hc
   refine ZD (Zo _ _ ([[(b2, .cells ⟨[.pointer (some ⟨fb, 0, none⟩)]⟩ 30 (0, 0))], [(b7, .cells ⟨y.2.map Zs⟩ 51 (0, 0))]])) (Zx (hT := tk) (Hp.le_refl _)) ?_
   all_goals (refine rLd 0 ?_; refine rNc 1 ?_; refine rFa 2 ?_; refine rLd 3 ?_; refine ZO 4 ?_; refine rLd 5 ?_)
   all_goals (refine Zn (i := 6) ?_; ((try refine Zk ?_); (first | (refine Zd (.func 22) ?_; refine qC rfl rfl (kwrite _ b k1 D1 y.1 y.2 hm64 hD1) ?_; rintro v ρ' L' hle ⟨rfl, rfl, k2, hD2, rfl⟩ <;> (try simp only [kM, kN, kO])) | (refine Zj ?_; try intro _)) <;> ((try simp only [kM, kN, kO]); refine Za ?_; refine Zl ?_)))
   all_goals (refine Zn (i := 7) ?_; ((try refine Zk ?_); (first | (refine Zj ?_; try intro _)) <;> ((try simp only [kM, kN, kO]); refine Za ?_; refine Zl ?_)))
   all_goals refine ZH ?_
   simp only [hc]
   repeat' (first | (refine Zg ?_; first | (refine Ze ?_; refine qQ ?_) | refine Zj ?_ | refine qAn ?_ | refine qXo ?_ | refine qNt ?_) | refine Za ?_ | (refine Zh ?_; refine Zq ?_) | (refine Zi ?_; refine Zr ?_) | intro _)
   refine Xj [(l, .loop r')] ?_
   refine te_next (Lu := [[(b2, .cells ⟨[.pointer (some ⟨fb, 0, none⟩)]⟩ 30 (0, 0))], [(b4, .cells ⟨[.int .i64 0]⟩ 26 (0, 0))]] ++ ZF b k2 (D1.write (y.1 : Int) y.2).1) rfl (Hp.le_refl _) ⟨hrec'.tmps.trans hrec.tmps, hrec'.params.trans hrec.params, hrec'.assign.trans hrec.assign, hrec'.body.trans hrec.body⟩ tk tk inferInstance ?_
   exact ⟨_, k2, hl2, hw2, hD2, rfl⟩
  ·have hcb : ((D1.write (y.1 : Int) y.2).2 != 0) = true := by simpa using hc
   have hst := hwr.stop hpre hc
   refine ZD (Zo _ _ ([[(b2, .cells ⟨[.pointer (some ⟨fb, 0, none⟩)]⟩ 30 (0, 0))], [(b7, .cells ⟨y.2.map Zs⟩ 51 (0, 0))]])) (Zx (hT := tk) (Hp.le_refl _)) ?_
   all_goals (refine rLd 0 ?_; refine rNc 1 ?_; refine rFa 2 ?_; refine rLd 3 ?_; refine ZO 4 ?_; refine rLd 5 ?_)
   all_goals (refine Zn (i := 6) ?_; ((try refine Zk ?_); (first | (refine Zd (.func 22) ?_; refine qC rfl rfl (kwrite _ b k1 D1 y.1 y.2 hm64 hD1) ?_; rintro v ρ' L' hle ⟨rfl, rfl, k2, hD2, rfl⟩ <;> (try simp only [kM, kN, kO])) | (refine Zj ?_; try intro _)) <;> ((try simp only [kM, kN, kO]); refine Za ?_; refine Zl ?_)))
   all_goals (refine Zn (i := 7) ?_; ((try refine Zk ?_); (first | (refine Zj ?_; try intro _)) <;> ((try simp only [kM, kN, kO]); refine Za ?_; refine Zl ?_)))
   all_goals refine ZH ?_
   repeat' (first | (refine Zg ?_; first | (refine Ze ?_; refine qQ ?_) | refine Zj ?_ | refine qAn ?_ | refine qXo ?_ | refine qNt ?_) | refine Za ?_ | (refine Zh ?_; refine Zq ?_) | (refine Zi ?_; refine Zr ?_) | intro _)
   refine Xj [(l, .loop r')] ?_
   refine te_leave (Lu := [[(b2, .cells ⟨[.pointer (some ⟨fb, 0, none⟩)]⟩ 30 (0, 0))], [(b4, .cells ⟨[.int .i64 (D1.write (y.1 : Int) y.2).2]⟩ 26 (0, 0))]] ++ ZF b k2 (D1.write (y.1 : Int) y.2).1) rfl rfl (Hp.le_refl _) ⟨hrec'.tmps.trans hrec.tmps, hrec'.params.trans hrec.params, hrec'.assign.trans hrec.assign, hrec'.body.trans hrec.body⟩ tk tk inferInstance ?_
   exact ⟨rfl, _, k2, _, hl2, hc, hst, hD2, rfl⟩
 case done =>
  rintro D0 ρ1 Lu hl1 ⟨D1, k1, hl2, hwr, hD1, rfl⟩
  simp only [List.cons_append, List.nil_append]
  have hlay := hwr.lays []
  rw [List.append_nil, DS.lays] at hlay
  rw [hlay]
  have hfile := (hf.mono hl2).at'
  repeat' (first | (refine Zd (.func 24) ?_; refine qC rfl rfl (ksync _ b k1 D1 hD1) ?_; rintro v ρ' L' hle ⟨rfl, hl3, k2, hD2, rfl⟩ <;> (try simp only [kM, kN, kO])) | (refine Zg ?_; first | (refine Ze ?_; refine qQ ?_) | refine Zj ?_ | refine qAn ?_ | refine qXo ?_ | refine qNt ?_) | refine Za ?_ | (refine Zh ?_; refine Zq ?_) | (refine Zi ?_; refine Zr ?_) | intro _)
  refine Xj [(D0, .deferred (some []))] ?_
  exact te_end_d rfl rfl rfl inferInstance (res1 rfl (ZY rfl)) (Hp.le_trans hl2 hl3) tk (by infer_instance) (L' := S ++ ZF b k2 D1.sync.1) ⟨rfl, Hp.le_trans hl2 hl3, k2, hD2, rfl⟩
 case stop =>
  rintro D0 c ρ1 Lu hl1 ⟨rfl, D2, k2, e, hl2, he, hlay, hD2, rfl⟩
  simp only [List.cons_append, List.nil_append]
  have heb : (e != 0) = true := by simpa using he
  rw [hlay]
  repeat' (first | (refine Zg ?_; first | (refine Ze ?_; refine qQ ?_) | refine Zj ?_ | refine qAn ?_ | refine qXo ?_ | refine qNt ?_) | refine Za ?_ | (refine Zh ?_; refine Zq ?_) | (refine Zi ?_; refine Zr ?_) | intro _)
  refine Xj [(D0, .deferred (some []))] ?_
  exact te_end_d rfl rfl rfl inferInstance (res1 rfl (ZY rfl)) hl2 tk (by infer_instance) (L' := S ++ ZF b k2 D2) ⟨rfl, hl2, k2, hD2, rfl⟩
theorem page_spec (ρ : Hp) (num : Int) : Spec Tryz.prog 26 [.int .i64 num] ρ [] (fun v ρ' L' => v = .bool (decide (0 ≤ num ∧ num < 64)) ∧ ρ' = ρ ∧ L' = []) := by
 by_cases h0 : 0 ≤ num
 ·by_cases h1 : num < 64
  ·rw [decide_eq_true ⟨h0, h1⟩]
   refine Zf Tryz.func26 rfl rfl rfl fun u R => ?_
   simp only [Zv, List.cons_append, List.nil_append]
   repeat' (first | (refine Zg ?_; first | (refine Ze ?_; refine qQ ?_) | refine Zj ?_ | refine qAn ?_ | refine qXo ?_ | refine qNt ?_) | refine Za ?_ | (refine Zh ?_; refine Zq ?_) | (refine Zi ?_; refine Zr ?_) | intro _)
   exact qE (L' := []) ⟨rfl, rfl, rfl⟩
  ·rw [decide_eq_false (fun h => h1 h.2)]
   refine Zf Tryz.func26 rfl rfl rfl fun u R => ?_
   simp only [Zv, List.cons_append, List.nil_append]
   repeat' (first | (refine Zg ?_; first | (refine Ze ?_; refine qQ ?_) | refine Zj ?_ | refine qAn ?_ | refine qXo ?_ | refine qNt ?_) | refine Za ?_ | (refine Zh ?_; refine Zq ?_) | (refine Zi ?_; refine Zr ?_) | intro _)
   exact qE (L' := []) ⟨rfl, rfl, rfl⟩
 ·rw [decide_eq_false (fun h => h0 h.1)]
  refine Zf Tryz.func26 rfl rfl rfl fun u R => ?_
  simp only [Zv, List.cons_append, List.nil_append]
  repeat' (first | (refine Zg ?_; first | (refine Ze ?_; refine qQ ?_) | refine Zj ?_ | refine qAn ?_ | refine qXo ?_ | refine qNt ?_) | refine Za ?_ | (refine Zh ?_; refine Zq ?_) | (refine Zi ?_; refine Zr ?_) | intro _)
  exact qE (L' := []) ⟨rfl, rfl, rfl⟩
def OpenOk (D : DS) (base : Int) : Prop := 0 ≤ base ∧ base + 256 ≤ D.secs.length
instance (D : DS) (base : Int) : Decidable (OpenOk D base) := by unfold OpenOk; infer_instance
theorem openf_spec (ρ : Hp) (db : Nat) (k : DK) (D : DS) (hD : DOk k D) (base : Nat) (h : base + 256 ≤ D.secs.length) :
  Spec Tryz.prog 25 [.pointer (some ⟨db, 0, none⟩), .int .i64 base] ρ (ZF db k D) (fun v ρ' L' => ρ.le ρ' ∧ ∃ fb, v = .tuple ⟨[.pointer (some ⟨fb, 0, none⟩), .int .i64 0]⟩ ∧ FIn ρ' fb db base ∧ L' = ZF db k D) := by
 have hln := hD.ok.secs.len
 refine Zf Tryz.func25 rfl rfl rfl fun u R => ?_
 simp only [Zv, List.cons_append, List.nil_append]
 repeat' (first | (refine Zd (.func 50) ?_; refine qC rfl rfl (klen _ db k D) ?_; rintro v ρ' L' hle ⟨rfl, rfl, rfl⟩ <;> (try simp only [kM, kN, kO])) | (refine Zg ?_; first | (refine Ze ?_; refine qQ ?_) | refine Zj ?_ | refine qAn ?_ | refine qXo ?_ | refine qNt ?_) | refine Za ?_ | (refine Zh ?_; refine Zq ?_) | (refine Zi ?_; refine Zr ?_) | intro _)
 rename_i fb
 refine Xd [(fb, .cells ⟨[.pointer (some ⟨db, 0, none⟩), .int .i64 base]⟩ 109 (0, 0))] (h := by infer_instance) (fun ρ1 hl1 hf1 => ?_)
 have h1 := hf1 _ (List.mem_singleton.2 rfl)
 have hF : FIn ρ1 fb db base := ⟨h1⟩
 exact qE (L' := ZF db k D) ⟨hl1, fb, rfl, hF, rfl⟩
theorem Open_spec (ρ : Hp) (db : Nat) (k : DK) (D : DS) (hD : DOk k D) (base : Nat) (h : base + 256 ≤ D.secs.length) :
  Spec Tryz.prog 8 [.pointer (some ⟨db, 0, none⟩), .int .i64 base] ρ (ZF db k D) (fun v ρ' L' => ρ.le ρ' ∧ ∃ fb, v = .tuple ⟨[.pointer (some ⟨fb, 0, none⟩), .int .i64 0]⟩ ∧ FIn ρ' fb db base ∧ L' = ZF db k D) := by
 refine Zf Tryz.func8 rfl rfl rfl fun u R => ?_
 simp only [Zv, List.cons_append, List.nil_append]
 repeat' (first | (refine Zd (.func 25) ?_; refine qC rfl rfl (openf_spec _ db k D hD base h) ?_; rintro v1 ρ1 L1 hle1 ⟨hl1, fb, rfl, hF, rfl⟩; try simp only [kM, kN, kO]) | (refine Zg ?_; first | (refine Ze ?_; refine qQ ?_) | refine Zj ?_ | refine qAn ?_ | refine qXo ?_ | refine qNt ?_) | refine Za ?_ | (refine Zh ?_; refine Zq ?_) | (refine Zi ?_; refine Zr ?_) | intro _)
 exact qE (L' := ZF db k D) ⟨hl1, fb, rfl, hF, rfl⟩
def ZT (base : Nat) : List (Nat × Blk) := (List.range 256).map fun i => (base + i, XL)
theorem noughtsF_at {base k : Nat} (hk : k < (ZT base).length) : (ZT base)[k] = (base + k, XL) := by simp [ZT]
theorem noughtsF_len {base : Nat} : (ZT base).length = 256 := by simp [ZT]
theorem noughtsF_64 {n : Nat} : ∀ p ∈ ZT n, p.2.length = 64 := fun p hp => by
 simp only [ZT, List.mem_map] at hp
 obtain ⟨k, _, rfl⟩ := hp; rfl
theorem noughtsF_iter (ρ0 : Hp) (sb base : Nat) (hn : base ≤ 1000000) : Iter Tryz.prog 43 [] [.pointer (some ⟨sb, 0, none⟩)] pencV ρ0 [[(sb, .cells ⟨[.int .i64 base]⟩ 3 (0, 0))]] (ZT base) := by
 intro l J Jx hY ρ Lj hl0 hJ
 have hlen := noughtsF_len (base := base)
 refine Zf Tryz.func43 rfl rfl rfl fun u R => ?_
 simp only [Zv, List.cons_append, List.nil_append, List.append_assoc]
 repeat' (first | (refine Zg ?_; first | (refine Ze ?_; refine qQ ?_) | refine Zj ?_ | refine qAn ?_ | refine qXo ?_ | refine qNt ?_) | refine Za ?_ | (refine Zh ?_; refine Zq ?_) | (refine Zi ?_; refine Zr ?_) | intro _)
 refine ZB [(0, _), (1, _)] (fun (ζ : (Nat) × (Hp) × (SH)) => [(4, .int .i64 ζ.1)]) (fun (ζ : (Nat) × (Hp) × (SH)) => ζ.2.1) (fun (ζ : (Nat) × (Hp) × (SH)) => [[(sb, .cells ⟨[.int .i64 base]⟩ 3 (0, 0))]] ++ ζ.2.2) (fun (ζ : (Nat) × (Hp) × (SH)) => ζ.1 ≤ 256 ∧ ρ.le ζ.2.1 ∧ J ((ZT base).take ζ.1) ζ.2.1 ζ.2.2) (fun (ζ : (Nat) × (Hp) × (SH)) => 256 - ζ.1) ((0, ρ, Lj)) (⟨Nat.zero_le _, Hp.le_refl _, hJ⟩) Zm Zm rfl tk ?_
 rintro ⟨k, ρ1, L1⟩ hI
 try simp only [List.cons_append, List.nil_append, List.append_assoc, List.append_eq] at hI ⊢
 try dsimp only at hI ⊢
 obtain ⟨hk, hle1, hj⟩ := hI
 by_cases hlt : k < 256
 ·have hk2 : k < (ZT base).length := by omega
  have hpre := take_succ_pre (ZT base) k hk2
  rw [noughtsF_at] at hpre
  have hts := List.take_succ_eq_append_getElem hk2
  rw [noughtsF_at] at hts
  have hy := hY _ _ ρ1 L1 hpre (Hp.le_trans hl0 hle1) hj
  have hbk : (base : Int) + (k : Int) = ((base + k : Nat) : Int) := by omega
  repeat' (first | (simp only [Value.cells, zblk_cells, hbk]; refine Zd (.tmp 7) ?_; refine qY rfl rfl hy ?_; rintro v ρ' L' hle ⟨Lj', rfl, ⟨rfl, hj'⟩ | ⟨rfl, hj'⟩⟩ <;> (try simp only [kM, kN, kO])) | (refine Zg ?_; first | (refine Ze ?_; refine qQ ?_) | refine Zj ?_ | refine qAn ?_ | refine qXo ?_ | refine qNt ?_) | refine Za ?_ | (refine Zh ?_; refine Zq ?_) | (refine Zi ?_; refine Zr ?_) | intro _)
  ·refine Zp (k + 1, ρ', Lj') (⟨hlt, Hp.le_trans hle1 hle, by dsimp only; rw [hts]; exact hj'⟩) Zm Zm rfl tk inferInstance (by first | omega | (dsimp only; omega))
  ·exact qE (L' := [[(sb, .cells ⟨[.int .i64 base]⟩ 3 (0, 0))]] ++ Lj') ⟨Lj', rfl, .inr hj'⟩
 ·have hk2 : k = 256 := by omega
  subst hk2
  rw [List.take_of_length_le (by omega)] at hj
  repeat' (first | (refine Zg ?_; first | (refine Ze ?_; refine qQ ?_) | refine Zj ?_ | refine qAn ?_ | refine qXo ?_ | refine qNt ?_) | refine Za ?_ | (refine Zh ?_; refine Zq ?_) | (refine Zi ?_; refine Zr ?_) | intro _)
  exact qE (L' := [[(sb, .cells ⟨[.int .i64 base]⟩ 3 (0, 0))]] ++ L1) ⟨L1, rfl, .inl hj⟩
theorem Format_spec (ρ : Hp) (db : Nat) (k : DK) (D : DS) (hD : DOk k D) (base : Nat) (h : base + 256 ≤ D.secs.length) (h0 : (DS.lays (ZT base) D).2 = 0) :
  Spec Tryz.prog 20 [.pointer (some ⟨db, 0, none⟩), .int .i64 base] ρ (ZF db k D) (fun v ρ' L' => ρ.le ρ' ∧ ∃ fb k', v = .tuple ⟨[.pointer (some ⟨fb, 0, none⟩), .int .i64 0]⟩ ∧ FIn ρ' fb db base ∧ DOk k' (DS.lays (ZT base) D).1 ∧ L' = ZF db k' (DS.lays (ZT base) D).1) := by
 have hln := hD.ok.secs.len
 refine Zf Tryz.func20 rfl rfl rfl fun u R => ?_
 simp only [Zv, List.cons_append, List.nil_append]
 repeat' (first | (refine Zd (.func 25) ?_; refine qC rfl rfl (openf_spec _ db k D hD base h) ?_; rintro v1 ρ1 L1 hle1 ⟨hl1, fb, rfl, hF, rfl⟩; try simp only [kM, kN, kO]) | (refine Zg ?_; first | (refine Ze ?_; refine qQ ?_) | refine Zj ?_ | refine qAn ?_ | refine qXo ?_ | refine qNt ?_) | refine Za ?_ | (refine Zh ?_; refine Zq ?_) | (refine Zi ?_; refine Zr ?_) | intro _)
 rename_i b3
 repeat' (first | (refine Zd (.func 32) ?_; refine qC rfl rfl (row_spec _ _ fb base 43 [.pointer (some ⟨b3, 0, none⟩)] [[(b3, .cells ⟨[.int .i64 base]⟩ 3 (0, 0))]] (ZT base) (Hp.le_refl _) (noughtsF_iter _ b3 base (by omega)) noughtsF_64 db hF k D hD) ?_; rintro v2 ρ2 L2 hle2 ⟨rfl, hl2, k2, hD2, rfl⟩; simp only [List.cons_append, List.nil_append, List.append_assoc, List.append_eq, h0]) | (refine Zg ?_; first | (refine Ze ?_; refine qQ ?_) | refine Zj ?_ | refine qAn ?_ | refine qXo ?_ | refine qNt ?_) | refine Za ?_ | (refine Zh ?_; refine Zq ?_) | (refine Zi ?_; refine Zr ?_) | intro _)
 have hfin := Hp.le_trans hl1 hl2
 have hF2 := hF.mono hl2
 exact qE (L' := ZF db k2 (DS.lays (ZT base) D).1) ⟨hfin, fb, k2, rfl, hF2, hD2, rfl⟩
def readF (D : DS) (base num : Nat) : (Yr × Nat × Int) × DS :=
 if (ZA D base num).2.2 ≠ 0 ∨ (ZA D base num).1.1.right = false then ((⟨0, [], []⟩, 0, (ZA D base num).2.2), (ZA D base num).2.1)
 else (((ZA D base num).1.1.c, (ZA D base num).1.1.lsn, 0), (ZA D base num).2.1)
theorem Read_spec (ρ : Hp) (fb db base num : Nat) (hf : FIn ρ fb db base) (hb : base ≤ 100000) (hn : num < 64) (k : DK) (D : DS) (hD : DOk k D) :
  Spec Tryz.prog 9 [.pointer (some ⟨fb, 0, none⟩), .int .i64 num] ρ (ZF db k D) (fun v ρ' L' => ρ.le ρ' ∧ ∃ w, v = .tuple ⟨[.agg ⟨Yt (readF D base num).1.1.kind w⟩, .int .u64 ((readF D base num).1.2.1 : Nat), .int .i64 (readF D base num).1.2.2]⟩ ∧ CIn ρ' w (readF D base num).1.1.rows (readF D base num).1.1.kids ∧ DOk k (readF D base num).2 ∧ L' = ZF db k (readF D base num).2) := by
 have hp := page_spec ρ num
 rw [decide_eq_true ⟨by omega, by omega⟩] at hp
 have hcn := fcounts_spec ρ fb db base num hf hb hn k D hD
 have hR : readF D base num = if (ZA D base num).2.2 ≠ 0 ∨ (ZA D base num).1.1.right = false then ((⟨0, [], []⟩, 0, (ZA D base num).2.2), (ZA D base num).2.1)
  else (((ZA D base num).1.1.c, (ZA D base num).1.1.lsn, 0), (ZA D base num).2.1) := rfl
 generalize readF D base num = RES at *
 generalize ZA D base num = r at *
 obtain ⟨⟨⟨st, ls, c, rt, mo⟩, ot⟩, D', ec⟩ := r
 dsimp only at hR hcn
 refine Zf Tryz.func9 rfl rfl rfl fun u R => ?_
 simp only [Zv, List.cons_append, List.nil_append]
 by_cases he : ec = 0
 ·subst he
  cases rt with
  | true =>
   rw [if_neg (by simp)] at hR
   subst hR
   repeat' (first | (refine Zd (.func 26) ?_; refine qC rfl rfl (hp) ?_; rintro v ρ' L' hle ⟨rfl, rfl, rfl⟩ <;> (try simp only [kM, kN, kO])) | (refine Zd (.func 27) ?_; refine qC rfl rfl hcn ?_; rintro v2 ρ2 L2 hle2 ⟨hl2, w, rfl, hC, hD2, rfl⟩; try simp only [kM, kN, kO]) | (refine Zg ?_; first | (refine Ze ?_; refine qQ ?_) | refine Zj ?_ | refine qAn ?_ | refine qXo ?_ | refine qNt ?_) | refine Za ?_ | (refine Zh ?_; refine Zq ?_) | (refine Zi ?_; refine Zr ?_) | intro _)
   rename_i b4 b7
   refine ZD (Zo _ _ ([[(b7, .cells ⟨slV ⟨st, ls, c, true, mo⟩ w⟩ 78 (0, 0))]])) (Zx (hT := tk) (Hp.le_refl _)) ?_
   all_goals (refine rFa 0 ?_; refine rLd 1 ?_; refine rFa 2 ?_; refine rLd 3 ?_)
   all_goals (refine Zn (i := 4) ?_; ((try refine Zk ?_); (first | (refine Zj ?_; try intro _)) <;> ((try simp only [kM, kN, kO]); refine Za ?_; refine Zl ?_)))
   all_goals (refine ZR ?_; refine rAs 5 ?_; refine rAs 6 ?_; refine ZH ?_)
   all_goals (repeat' (first | (refine Zg ?_; first | (refine Ze ?_; refine qQ ?_) | refine Zj ?_ | refine qAn ?_ | refine qXo ?_ | refine qNt ?_) | refine Za ?_ | (refine Zh ?_; refine Zq ?_) | (refine Zi ?_; refine Zr ?_) | intro _))
   all_goals exact qE (L' := ZF db k D') ⟨hl2, w, rfl, hC, hD2, rfl⟩
  | false =>
   rw [if_pos (.inr rfl)] at hR
   subst hR
   repeat' (first | (refine Zd (.func 26) ?_; refine qC rfl rfl (hp) ?_; rintro v ρ' L' hle ⟨rfl, rfl, rfl⟩ <;> (try simp only [kM, kN, kO])) | (refine Zd (.func 27) ?_; refine qC rfl rfl hcn ?_; rintro v2 ρ2 L2 hle2 ⟨hl2, w, rfl, hC, hD2, rfl⟩; try simp only [kM, kN, kO]) | (refine Zg ?_; first | (refine Ze ?_; refine qQ ?_) | refine Zj ?_ | refine qAn ?_ | refine qXo ?_ | refine qNt ?_) | refine Za ?_ | (refine Zh ?_; refine Zq ?_) | (refine Zi ?_; refine Zr ?_) | intro _)
   exact qE (L' := ZF db k D') ⟨hl2, zCV, rfl, CIn.nil, hD2, rfl⟩
 ·have hcb : (ec != 0) = true := by simpa using he
  rw [if_pos (.inl he)] at hR
  subst hR
  repeat' (first | (refine Zd (.func 26) ?_; refine qC rfl rfl (hp) ?_; rintro v ρ' L' hle ⟨rfl, rfl, rfl⟩ <;> (try simp only [kM, kN, kO])) | (refine Zd (.func 27) ?_; refine qC rfl rfl hcn ?_; rintro v2 ρ2 L2 hle2 ⟨hl2, w, rfl, hC, hD2, rfl⟩; try simp only [kM, kN, kO]) | (refine Zg ?_; first | (refine Ze ?_; refine qQ ?_) | refine Zj ?_ | refine qAn ?_ | refine qXo ?_ | refine qNt ?_) | refine Za ?_ | (refine Zh ?_; refine Zq ?_) | (refine Zi ?_; refine Zr ?_) | intro _)
  exact qE (L' := ZF db k D') ⟨hl2, zCV, rfl, CIn.nil, hD2, rfl⟩
def Ys (ix : Nat) (a b : Blk) : List (Nat × Blk) := [(ix, a), (ix + 1, b)]
abbrev wS (b1 b2 b3 b4 fb num other : Nat) (a b : Blk) : SH := [[(b1, .cells ⟨(a ++ b).map Zs⟩ 52 (0, 0))], [(b2, .cells ⟨[.pointer (some ⟨fb, 0, none⟩)]⟩ 30 (0, 0))], [(b3, .cells ⟨[.int .i64 num]⟩ 3 (0, 0))], [(b4, .cells ⟨[.int .i64 other]⟩ 3 (0, 0))]]
theorem write_iter (ρ0 : Hp) (b1 b2 b3 b4 fb db base num other : Nat) (a b : Blk) (ha : a.length = 64) (hb : b.length = 64) (hf : FIn ρ0 fb db base) (hbase : base ≤ 100000) (hn : num < 64) (ho : other < 2) :
  Iter Tryz.prog 33 [] [.pointer (some ⟨b1, 0, none⟩), .pointer (some ⟨b2, 0, none⟩), .pointer (some ⟨b3, 0, none⟩), .pointer (some ⟨b4, 0, none⟩)] pencV ρ0 (wS b1 b2 b3 b4 fb num other a b) (Ys (base + 4 * num + 2 * other) a b) := by
 intro l J Jx hY ρ Lj hl0 hJ
 have hat := fun ρ (h : FIn ρ fb db base) => at_spec ρ fb db base num other h hbase hn ho
 have hix0 : base + 4 * num + 2 * other ≤ 200000 := by omega
 generalize base + 4 * num + 2 * other = ix at *
 have hab : ((a ++ b).map Zs).length = 128 := by simp [ha, hb]
 have hone := ZI (a ++ b)
 have hld : List.take 128 (List.drop 0 ((a ++ b).map Zs)) = (a ++ b).map Zs := by rw [List.drop_zero, List.take_of_length_le (by omega)]
 refine Zf Tryz.func33 rfl rfl rfl fun u R => ?_
 simp only [Zv, List.cons_append, List.nil_append, List.append_assoc]
 repeat' (first | (refine Zg ?_; first | (refine Ze ?_; refine qQ ?_) | refine Zj ?_ | refine qAn ?_ | refine qXo ?_ | refine qNt ?_) | refine Za ?_ | (refine Zh ?_; refine Zq ?_) | (refine Zi ?_; refine Zr ?_) | intro _)
 refine ZB [(0, _), (2, _), (3, _), (4, _), (8, _)] (fun (ζ : (Nat) × (Hp) × (SH)) => [(9, .int .i64 ζ.1)]) (fun (ζ : (Nat) × (Hp) × (SH)) => ζ.2.1) (fun (ζ : (Nat) × (Hp) × (SH)) => wS b1 b2 b3 b4 fb num other a b ++ ζ.2.2) (fun (ζ : (Nat) × (Hp) × (SH)) => ζ.1 ≤ 2 ∧ ρ.le ζ.2.1 ∧ J ((Ys ix a b).take ζ.1) ζ.2.1 ζ.2.2) (fun (ζ : (Nat) × (Hp) × (SH)) => 2 - ζ.1) ((0, ρ, Lj)) (⟨Nat.zero_le _, Hp.le_refl _, hJ⟩) Zm Zm rfl tk ?_
 rintro ⟨i, ρ1, L1⟩ hI
 try simp only [List.cons_append, List.nil_append, List.append_assoc, List.append_eq] at hI ⊢
 try dsimp only at hI ⊢
 obtain ⟨hi, hle1, hj⟩ := hI
 by_cases hlt : i < 2
 ·obtain ⟨blk, hbl, hix, hpw⟩ : ∃ blk : Blk, blk.length = 64 ∧ (((a ++ b).map Zs).drop (i * 64)).take 64 = blk.map Zs ∧ (Ys ix a b).take (i + 1) = (Ys ix a b).take i ++ [(ix + i, blk)] := by
   rcases (show i = 0 ∨ i = 1 by omega) with rfl | rfl
   ·refine ⟨a, ha, ?_, rfl⟩
    rw [List.map_append, Nat.zero_mul, List.drop_zero, List.take_left' (by simpa using ha)]
   ·refine ⟨b, hb, ?_, rfl⟩
    rw [List.map_append, Nat.one_mul, List.drop_left' (by simpa using ha), List.take_of_length_le (by simp; omega)]
  have hb64 : (blk.map Zs).length = 64 := by simpa using hbl
  have hbo := ZI blk
  have hpre : (Ys ix a b).take i ++ [(ix + i, blk)] <+: Ys ix a b := by rw [← hpw]; exact List.take_prefix _ _
  have hf1 := hf.mono (Hp.le_trans hl0 hle1)
  have hy := hY _ _ ρ1 L1 hpre (Hp.le_trans hl0 hle1) hj
  have hii : (ix : Int) + (i : Int) = ((ix + i : Nat) : Int) := by omega
  repeat' (first | (refine Yb (y_index_a rfl rfl hlt hix) rfl rfl ?_) | (refine Zg ?_; first | (refine Ze ?_; refine qQ ?_) | refine Zj ?_ | refine qAn ?_ | refine qXo ?_ | refine qNt ?_) | refine Za ?_ | (refine Zh ?_; refine Zq ?_) | (refine Zi ?_; refine Zr ?_) | intro _)
  rename_i b7
  refine ZD (Zo _ _ ([[(b2, .cells ⟨[.pointer (some ⟨fb, 0, none⟩)]⟩ 30 (0, 0))], [(b3, .cells ⟨[.int .i64 num]⟩ 3 (0, 0))], [(b4, .cells ⟨[.int .i64 other]⟩ 3 (0, 0))], [(b7, .cells ⟨blk.map Zs⟩ 51 (0, 0))]])) (Zx (hT := tk) (Hp.le_refl _)) ?_
  all_goals (refine ZO 0 ?_; refine rLd 1 ?_; refine rLd 2 ?_; refine rLd 3 ?_; refine ZO 5 ?_; refine rLd 7 ?_)
  all_goals (refine Zn (i := 4) ?_; ((try refine Zk ?_); (first | (refine Zd (.func 34) ?_; refine qC rfl rfl ((hat _ hf1)) ?_; rintro v ρ' L' hle ⟨rfl, rfl, rfl⟩ <;> (try simp only [kM, kN, kO])) | (refine Zj ?_; try intro _)) <;> ((try simp only [kM, kN, kO]); refine Za ?_; refine Zl ?_)))
  all_goals refine rAd 6 ?_
  all_goals (refine Zn (i := 8) ?_; ((try refine Zk ?_); (first | (simp only [hii]; refine Zd (.tmp 13) ?_; refine qY rfl rfl hy ?_; rintro v ρ' L' hle ⟨Lj', rfl, ⟨rfl, hj'⟩ | ⟨rfl, hj'⟩⟩ <;> (try simp only [kM, kN, kO, List.append_assoc])) | (refine Zj ?_; try intro _)) <;> ((try simp only [kM, kN, kO]); refine Za ?_; refine Zl ?_)))
  all_goals (refine ZR ?_; refine rUn 9 ?_; refine ZH ?_)
  ·repeat' (first | (refine Zg ?_; first | (refine Ze ?_; refine qQ ?_) | refine Zj ?_ | refine qAn ?_ | refine qXo ?_ | refine qNt ?_) | refine Za ?_ | (refine Zh ?_; refine Zq ?_) | (refine Zi ?_; refine Zr ?_) | intro _)
   refine Zp (i + 1, ρ', Lj') (⟨hlt, Hp.le_trans hle1 hle, by dsimp only; rw [hpw]; exact hj'⟩) Zm Zm rfl tk inferInstance (by first | omega | (dsimp only; omega))
  ·repeat' (first | (refine Zg ?_; first | (refine Ze ?_; refine qQ ?_) | refine Zj ?_ | refine qAn ?_ | refine qXo ?_ | refine qNt ?_) | refine Za ?_ | (refine Zh ?_; refine Zq ?_) | (refine Zi ?_; refine Zr ?_) | intro _)
   exact qE (L' := wS b1 b2 b3 b4 fb num other a b ++ Lj') ⟨Lj', rfl, .inr hj'⟩
 ·have h2 : i = 2 := by omega
  subst h2
  repeat' (first | (refine Zg ?_; first | (refine Ze ?_; refine qQ ?_) | refine Zj ?_ | refine qAn ?_ | refine qXo ?_ | refine qNt ?_) | refine Za ?_ | (refine Zh ?_; refine Zq ?_) | (refine Zi ?_; refine Zr ?_) | intro _)
  exact qE (L' := wS b1 b2 b3 b4 fb num other a b ++ L1) ⟨L1, rfl, .inl hj⟩
def XI (D : DS) (base num lsn : Nat) (c : Yr) : DS × Int :=
 if (ZA D base num).2.2 ≠ 0 then (ZA D base num).2
 else if (ZA D base num).1.1.most = 18446744073709551615 then ((ZA D base num).2.1, 6)
 else DS.lays (Ys (base + 4 * num + 2 * (ZA D base num).1.2) (ZE num ((ZA D base num).1.1.most + 1) lsn c 0) (ZE num ((ZA D base num).1.1.most + 1) lsn c 1)) (ZA D base num).2.1
theorem countsD_lt (D : DS) (base num : Nat) : (ZA D base num).1.1.most < 18446744073709551616 ∧ (ZA D base num).1.2 < 2 := by
 unfold ZA
 split
 ·exact ⟨by show (0 : Nat) < _; omega, by show (0 : Nat) < 2; omega⟩
 ·split
  ·exact ⟨by show (0 : Nat) < _; omega, by show (0 : Nat) < 2; omega⟩
  ·exact ⟨(csTo_lt D base num 2).2.1, (csTo_lt D base num 2).2.2⟩
theorem Write_no (ρ : Hp) (fb : Nat) (num : Int) (lsn : Nat) (c : Yr) (w : CV) (hn : ¬ (0 ≤ num ∧ num < 64)) : Spec Tryz.prog 14 [.pointer (some ⟨fb, 0, none⟩), .int .i64 num, .int .u64 lsn, .agg ⟨Yt c.kind w⟩] ρ [] (fun v ρ' L' => v = .int .i64 2 ∧ ρ' = ρ ∧ L' = []) := by
 have hp := page_spec ρ num
 rw [decide_eq_false hn] at hp
 refine Zf Tryz.func14 rfl rfl rfl fun u R => ?_
 simp only [Zv, List.cons_append, List.nil_append]
 repeat' (first | (refine Zd (.func 26) ?_; refine qC rfl rfl (hp) ?_; rintro v ρ' L' hle ⟨rfl, rfl, rfl⟩ <;> (try simp only [kM, kN, kO])) | (refine Zg ?_; first | (refine Ze ?_; refine qQ ?_) | refine Zj ?_ | refine qAn ?_ | refine qXo ?_ | refine qNt ?_) | refine Za ?_ | (refine Zh ?_; refine Zq ?_) | (refine Zi ?_; refine Zr ?_) | intro _)
 exact qE (L' := []) ⟨rfl, rfl, rfl⟩
theorem Write_bad (ρ : Hp) (fb num lsn : Nat) (hn : num < 64) (c : Yr) (w : CV) (hC : CIn ρ w c.rows c.kids) (hok : ZN c = false) : Spec Tryz.prog 14 [.pointer (some ⟨fb, 0, none⟩), .int .i64 num, .int .u64 lsn, .agg ⟨Yt c.kind w⟩] ρ [] (fun v ρ' L' => v = .int .i64 160 ∧ ρ' = ρ ∧ L' = []) := by
 have hp := page_spec ρ num
 rw [decide_eq_true ⟨by omega, by omega⟩] at hp
 have hck := XD ρ w c hC
 rw [hok] at hck
 simp only [Bool.false_eq_true, if_false] at hck
 refine Zf Tryz.func14 rfl rfl rfl fun u R => ?_
 simp only [Zv, List.cons_append, List.nil_append]
 repeat' (first | (refine Zd (.func 26) ?_; refine qC rfl rfl (hp) ?_; rintro v ρ' L' hle ⟨rfl, rfl, rfl⟩ <;> (try simp only [kM, kN, kO])) | (refine Zd (.func 30) ?_; refine qC rfl rfl (hck) ?_; rintro v ρ' L' hle ⟨rfl, rfl, rfl⟩ <;> (try simp only [kM, kN, kO])) | (refine Zg ?_; first | (refine Ze ?_; refine qQ ?_) | refine Zj ?_ | refine qAn ?_ | refine qXo ?_ | refine qNt ?_) | refine Za ?_ | (refine Zh ?_; refine Zq ?_) | (refine Zi ?_; refine Zr ?_) | intro _)
 exact qE (L' := []) ⟨rfl, rfl, rfl⟩
theorem Write_spec (ρ : Hp) (fb db base num lsn : Nat) (hf : FIn ρ fb db base) (hb : base ≤ 100000) (hn : num < 64) (hls : lsn < 18446744073709551616) (c : Yr) (w : CV) (hC : CIn ρ w c.rows c.kids) (hok : ZN c = true) (hir : ∀ r ∈ c.rows, r.id < 65536) (hik : ∀ k ∈ c.kids, k.id < 65536) (k : DK) (D : DS) (hD : DOk k D) :
  Spec Tryz.prog 14 [.pointer (some ⟨fb, 0, none⟩), .int .i64 num, .int .u64 lsn, .agg ⟨Yt c.kind w⟩] ρ (ZF db k D) (fun v ρ' L' => v = .int .i64 (XI D base num lsn c).2 ∧ ρ.le ρ' ∧ ∃ k', DOk k' (XI D base num lsn c).1 ∧ L' = ZF db k' (XI D base num lsn c).1) := by
 have hp := page_spec ρ num
 rw [decide_eq_true ⟨by omega, by omega⟩] at hp
 have hck := XD ρ w c hC
 rw [hok] at hck
 simp only [if_true] at hck
 have hcn := fcounts_spec ρ fb db base num hf hb hn k D hD
 have hclt := countsD_lt D base num
 have hR : XI D base num lsn c = if (ZA D base num).2.2 ≠ 0 then (ZA D base num).2
  else if (ZA D base num).1.1.most = 18446744073709551615 then ((ZA D base num).2.1, 6)
  else DS.lays (Ys (base + 4 * num + 2 * (ZA D base num).1.2) (ZE num ((ZA D base num).1.1.most + 1) lsn c 0) (ZE num ((ZA D base num).1.1.most + 1) lsn c 1)) (ZA D base num).2.1 := rfl
 generalize XI D base num lsn c = RES at *
 generalize ZA D base num = r at *
 obtain ⟨⟨⟨st, ls, c0, rt, mo⟩, ot⟩, D', ec⟩ := r
 dsimp only at hR hcn hclt
 refine Zf Tryz.func14 rfl rfl rfl fun u R => ?_
 simp only [Zv, List.cons_append, List.nil_append]
 by_cases he : ec = 0
 ·subst he
  rw [if_neg (by simp)] at hR
  by_cases hmo : mo = 18446744073709551615
  ·rw [if_pos hmo] at hR
   subst hR
   have hmo' : ((mo : Nat) : Int) = 18446744073709551615 := by omega
   repeat' (first | (refine Zd (.func 26) ?_; refine qC rfl rfl (hp) ?_; rintro v ρ' L' hle ⟨rfl, rfl, rfl⟩ <;> (try simp only [kM, kN, kO])) | (refine Zd (.func 30) ?_; refine qC rfl rfl (hck) ?_; rintro v ρ' L' hle ⟨rfl, rfl, rfl⟩ <;> (try simp only [kM, kN, kO])) | (refine Zd (.func 27) ?_; refine qC rfl rfl hcn ?_; rintro v2 ρ2 L2 hle2 ⟨hl2, w2, rfl, hC2, hD2, rfl⟩; try simp only [kM, kN, kO]) | (refine Zg ?_; first | (refine Ze ?_; refine qQ ?_) | refine Zj ?_ | refine qAn ?_ | refine qXo ?_ | refine qNt ?_) | refine Za ?_ | (refine Zh ?_; refine Zq ?_) | (refine Zi ?_; refine Zr ?_) | intro _)
   exact qE (L' := ZF db k D') ⟨rfl, hl2, k, hD2, rfl⟩
  ·rw [if_neg hmo] at hR
   have hmo' : ¬ ((mo : Nat) : Int) = 18446744073709551615 := by omega
   have hm1 : ((mo : Nat) : Int) + 1 = ((mo + 1 : Nat) : Int) := by omega
   have hmlt : mo + 1 < 18446744073709551616 := by omega
   repeat' (first | (refine Zd (.func 26) ?_; refine qC rfl rfl (hp) ?_; rintro v ρ' L' hle ⟨rfl, rfl, rfl⟩ <;> (try simp only [kM, kN, kO])) | (refine Zd (.func 30) ?_; refine qC rfl rfl (hck) ?_; rintro v ρ' L' hle ⟨rfl, rfl, rfl⟩ <;> (try simp only [kM, kN, kO])) | (refine Zd (.func 27) ?_; refine qC rfl rfl hcn ?_; rintro v2 ρ2 L2 hle2 ⟨hl2, w2, rfl, hC2, hD2, rfl⟩; try simp only [kM, kN, kO]) | (refine Yb (XQ (vs := [.int .u64 ((mo + 1 : Nat) : Int), .int .u64 lsn, .agg ⟨Yt c.kind w⟩]) (cells := ⟨slV ⟨mo + 1, lsn, c, false, 0⟩ w⟩) rfl rfl) rfl rfl ?_) | (refine Zg ?_; first | (refine Ze ?_; refine qQ ?_) | refine Zj ?_ | refine qAn ?_ | refine qXo ?_ | refine qNt ?_) | refine Za ?_ | (refine Zh ?_; refine Zq ?_) | (refine Zi ?_; refine Zr ?_) | intro _)
   repeat' (first | (refine Zd (.func 31) ?_; refine qC rfl rfl (Wu _ num hn ⟨mo + 1, lsn, c, false, 0⟩ w (hC.mono hl2) hok hir hik hmlt hls) ?_; rintro v5 ρ5 L5 hle5 ⟨rfl, hl5, rfl⟩; dsimp only; have hP0 := Ya num (mo + 1) lsn c (i := 0) (by omega); have hP1 := Ya num (mo + 1) lsn c (i := 1) (by omega); have hPo := ZI (ZE num (mo + 1) lsn c 0 ++ ZE num (mo + 1) lsn c 1); have hPl : ((ZE num (mo + 1) lsn c 0 ++ ZE num (mo + 1) lsn c 1).map Zs).length = 128 := (by simp [hP0, hP1]); try simp only [kM, kN, kO]) | (refine Zg ?_; first | (refine Ze ?_; refine qQ ?_) | refine Zj ?_ | refine qAn ?_ | refine qXo ?_ | refine qNt ?_) | refine Za ?_ | (refine Zh ?_; refine Zq ?_) | (refine Zi ?_; refine Zr ?_) | intro _)
   rename_i b4 b5 b7 hq b10 b11 b13
   have hf5 := hf.mono (Hp.le_trans hl2 hl5)
   have h64 : ∀ p ∈ Ys (base + 4 * num + 2 * ot) (ZE num (mo + 1) lsn c 0) (ZE num (mo + 1) lsn c 1), p.2.length = 64 := fun p hp => by
    simp only [Ys, List.mem_cons, List.not_mem_nil, or_false] at hp
    rcases hp with rfl | rfl
    ·exact hP0
    ·exact hP1
   repeat' (first | (refine Zd (.func 32) ?_; refine qC rfl rfl (row_spec _ _ fb base 33 [.pointer (some ⟨b13, 0, none⟩), .pointer (some ⟨b4, 0, none⟩), .pointer (some ⟨b5, 0, none⟩), .pointer (some ⟨b11, 0, none⟩)] (wS b13 b4 b5 b11 fb num ot (ZE num (mo + 1) lsn c 0) (ZE num (mo + 1) lsn c 1)) _ (Hp.le_refl _) (write_iter _ b13 b4 b5 b11 fb db base num ot _ _ hP0 hP1 hf5 hb hn hclt.2) h64 db hf5 k D' hD2) ?_; rintro v6 ρ6 L6 hle6 ⟨rfl, hl6, k6, hD6, rfl⟩; simp only [List.cons_append, List.nil_append, List.append_assoc, List.append_eq]) | (refine Zg ?_; first | (refine Ze ?_; refine qQ ?_) | refine Zj ?_ | refine qAn ?_ | refine qXo ?_ | refine qNt ?_) | refine Za ?_ | (refine Zh ?_; refine Zq ?_) | (refine Zi ?_; refine Zr ?_) | intro _)
   subst hR
   have hfin := Hp.le_trans hl2 (Hp.le_trans hl5 hl6)
   exact qE (L' := ZF db k6 _) ⟨rfl, hfin, k6, hD6, rfl⟩
 ·have hcb : (ec != 0) = true := by simpa using he
  rw [if_pos he] at hR
  subst hR
  repeat' (first | (refine Zd (.func 26) ?_; refine qC rfl rfl (hp) ?_; rintro v ρ' L' hle ⟨rfl, rfl, rfl⟩ <;> (try simp only [kM, kN, kO])) | (refine Zd (.func 30) ?_; refine qC rfl rfl (hck) ?_; rintro v ρ' L' hle ⟨rfl, rfl, rfl⟩ <;> (try simp only [kM, kN, kO])) | (refine Zd (.func 27) ?_; refine qC rfl rfl hcn ?_; rintro v2 ρ2 L2 hle2 ⟨hl2, w2, rfl, hC2, hD2, rfl⟩; try simp only [kM, kN, kO]) | (refine Zg ?_; first | (refine Ze ?_; refine qQ ?_) | refine Zj ?_ | refine qAn ?_ | refine qXo ?_ | refine qNt ?_) | refine Za ?_ | (refine Zh ?_; refine Zq ?_) | (refine Zi ?_; refine Zr ?_) | intro _)
  exact qE (L' := ZF db k D') ⟨rfl, hl2, k, hD2, rfl⟩
def M64 : Nat := 18446744073709551616
structure Fit (c : Yr) : Prop where
 ok : ZN c = true
 id : IdFit c
theorem dataB_eq {c : Yr} (h : ZN c = true) : WK c = UInt8.ofNat (Yk c).length :: (Yk c ++ z8 (83 - (Yk c).length)) := by
 have := contB_len h
 unfold WK
 rw [fit_lay (by simp; omega)]
 simp only [List.length_cons, List.cons_append]
 congr 3; omega
theorem data_halves (c : Yr) : ((WK c).drop (42 * 0)).take 42 ++ ((WK c).drop (42 * 1)).take 42 = WK c := by
 have h := dataB_len c
 rw [Nat.mul_zero, List.drop_zero, List.take_of_length_le (l := (WK c).drop (42 * 1)) (by simp; omega), List.take_append_drop]
theorem body_drop (num st lsn : Nat) (c : Yr) (i k : Nat) : (bodyF num st lsn c i).drop (2 + k) = (be 8 st ++ (be 8 lsn ++ ((WK c).drop (42 * i)).take 42)).drop k := by
 unfold bodyF
 rw [Nat.add_comm, List.drop_succ_cons, List.drop_succ_cons]
theorem Wt (num st lsn : Nat) (c : Yr) {i : Nat} (hi : i < 2) (hst : st < M64) : YA (ZE num st lsn c i) = st := by
 have hb := bodyF_len num st lsn c hi
 unfold YA ZE
 rw [List.drop_append_of_le_length (by omega), List.take_append_of_le_length (by simp; omega), show 2 = 2 + 0 from rfl, body_drop, List.drop_zero, List.take_left' (ZJ _ _), XP]
 exact Nat.mod_eq_of_lt (by simpa [M64] using hst)
theorem part_lsn (num st lsn : Nat) (c : Yr) {i : Nat} (hi : i < 2) (hl : lsn < M64) : ZP (((ZE num st lsn c i).drop 10).take 8) = lsn := by
 have hb := bodyF_len num st lsn c hi
 unfold ZE
 rw [List.drop_append_of_le_length (by omega), List.take_append_of_le_length (by simp; omega), show 10 = 2 + 8 from rfl, body_drop, List.drop_left' (ZJ _ _), List.take_left' (ZJ _ _), XP]
 exact Nat.mod_eq_of_lt (by simpa [M64] using hl)
theorem part_data (num st lsn : Nat) (c : Yr) {i : Nat} (hi : i < 2) : ((ZE num st lsn c i).drop 18).take 42 = ((WK c).drop (42 * i)).take 42 := by
 have hb := bodyF_len num st lsn c hi
 have hd := dataB_len c
 unfold ZE
 rw [List.drop_append_of_le_length (by omega), List.take_append_of_le_length (by simp; omega), show 18 = 2 + 16 from rfl, body_drop, ← List.append_assoc, List.drop_left' (by simp [ZJ])]
 rw [List.take_of_length_le (by simp; omega)]
theorem part_ok (num st lsn : Nat) (c : Yr) {i : Nat} (hi : i < 2) (hn : num < 64) : PartOk num i (ZE num st lsn c i) := by
 have hb := bodyF_len num st lsn c hi
 refine ⟨?_, ?_, ?_⟩
 ·show (UInt8.ofNat num).toNat = num
  simp; omega
 ·show (UInt8.ofNat i).toNat = i
  simp; omega
 ·unfold ZE
  rw [List.drop_left' hb, List.take_left' hb, XP]
  exact Nat.mod_eq_of_lt (by have := sumB_lt (bodyF num st lsn c i); simpa using this)
theorem says_part (num st lsn : Nat) (c : Yr) (hc : Fit c) (h0 : 0 < st) (hst : st < M64) (hl : lsn < M64) : ZM num (ZE num st lsn c 0) (ZE num st lsn c 1) = ⟨st, lsn, c, true, 0⟩ := by
 have hde := dataB_eq hc.ok
 have h82 := contB_len hc.ok
 have e0 : ((ZE num st lsn c 0).getD 18 0).toNat = (Yk c).length := by
  have h1 := part_data num st lsn c (i := 0) (by omega)
  rw [Nat.mul_zero, List.drop_zero, hde] at h1
  have h2 : ((ZE num st lsn c 0).drop 18).take 42 = ((ZE num st lsn c 0).drop 18).take 42 := rfl
  have h3 := congrArg (fun l : Bs => l[0]?) h1
  simp only [List.take_succ_cons, List.getElem?_cons_zero] at h3
  rw [List.getElem?_take_of_lt (by omega), List.getElem?_drop] at h3
  rw [List.getD_eq_getElem?_getD, h3]
  simp; omega
 have e1 : ((ZE num st lsn c 0).drop 18).take 42 ++ ((ZE num st lsn c 1).drop 18).take 42 = WK c := by
  rw [part_data _ _ _ _ (by omega), part_data _ _ _ _ (by omega), data_halves]
 have e2 : ((WK c).drop 1).take (Yk c).length = Yk c := by rw [hde, List.drop_succ_cons, List.drop_zero, List.take_left]
 have e3 := takeCont_back hc.ok hc.id []
 rw [List.append_nil] at e3
 have e4 : ZP (((ZE num st lsn c 0).drop 2).take 8) = st := Wt num st lsn c (by omega) hst
 unfold ZM
 rw [e0, if_neg (by omega), e1, e2, e3, e4, part_lsn _ _ _ _ (by omega) hl]
 simp [h0]
theorem says_right {num : Nat} {a b : Blk} (ha : a.length = 64) (hb : b.length = 64) (h : (ZM num a b).right = true) : 0 < YA a ∧ YA b = YA a ∧ (ZM num a b).stamp = YA a := by
 have hlt := Wx a
 unfold ZM at h ⊢
 split
 ·rename_i hc; rw [if_pos hc] at h; cases h
 ·rename_i hc
  rw [if_neg hc] at h
  dsimp only at h ⊢
  have h' := of_decide_eq_true h
  obtain ⟨h1, h2, h3, h4⟩ := h'
  have hp0 := Ya num (ZP ((a.drop 2).take 8)) (ZP ((a.drop 10).take 8)) (Zz ((((a.drop 18).take 42 ++ (b.drop 18).take 42).drop 1).take (a.getD 18 0).toNat)).1 (i := 0) (by omega)
  have hb1 := (List.append_inj h4 (by omega)).2
  refine ⟨h3, ?_, rfl⟩
  exact (congrArg YA hb1).symm.trans (Wt num _ _ _ (by decide) hlt)
theorem stamp_zblk : YA XL = 0 := by
 unfold YA
 rw [zblk_z]
 simp only [z8, List.drop_replicate]
 exact z8_take _ _
def Sec (num i t : Nat) (b : Blk) : Prop := b = XL ∨ ∃ st lsn c, 0 < st ∧ st ≤ t ∧ b = ZE num st lsn c i
theorem Sec.mono {num i t t' : Nat} {b : Blk} (h : Sec num i t b) (ht : t ≤ t') : Sec num i t' b := by
 rcases h with h | ⟨st, lsn, c, h1, h2, h3⟩
 ·exact .inl h
 ·exact .inr ⟨st, lsn, c, h1, by omega, h3⟩
theorem Sec.len {num i t : Nat} {b : Blk} (h : Sec num i t b) (hi : i < 2) : b.length = 64 := by
 rcases h with rfl | ⟨st, lsn, c, h1, h2, rfl⟩
 ·rfl
 ·exact Ya _ _ _ _ hi
theorem Sec.stamp {num i t : Nat} {b : Blk} (h : Sec num i t b) (hi : i < 2) (hn : num < 64) (ht : t < M64) : XG num i b = YA b ∧ YA b ≤ t := by
 rcases h with rfl | ⟨st, lsn, c, h1, h2, rfl⟩
 ·unfold XG
  rw [stamp_zblk]
  exact ⟨by split <;> rfl, Nat.zero_le _⟩
 ·rw [Wt num st lsn c hi (by omega)]
  exact ⟨by unfold XG; rw [if_pos (part_ok num st lsn c hi hn), Wt num st lsn c hi (by omega)], h2⟩
def cs2 (num : Nat) (a0 b0 a1 b1 : Blk) : CS := ((⟨zSl, 0, 0⟩ : CS).step 0 (slotAt num a0 b0)).step 1 (slotAt num a1 b1)
abbrev Held := Yr × Nat
def zHeld : Held := (⟨0, [], []⟩, 0)
def Wj (cs : CS) : Held := if cs.best.right = true then (cs.best.c, cs.best.lsn) else zHeld
def sayH (num : Nat) (a b : Blk) : Held := ((ZM num a b).c, (ZM num a b).lsn)
theorem cs2_eq (num : Nat) (a0 b0 a1 b1 : Blk) : Wj (cs2 num a0 b0 a1 b1) = (if (ZM num a0 b0).right = true then (if (ZM num a1 b1).right = true ∧ (ZM num a0 b0).stamp < (ZM num a1 b1).stamp then sayH num a1 b1 else sayH num a0 b0) else if (ZM num a1 b1).right = true then sayH num a1 b1 else zHeld) ∧
  (cs2 num a0 b0 a1 b1).other = (if (ZM num a0 b0).right = true then (if (ZM num a1 b1).right = true ∧ (ZM num a0 b0).stamp < (ZM num a1 b1).stamp then 0 else 1) else 0) ∧
  (cs2 num a0 b0 a1 b1).most = max (YN num a0 b0) (YN num a1 b1) := by
 unfold cs2 CS.step Wj sayH slotAt
 generalize YN num a0 b0 = m0
 generalize YN num a1 b1 = m1
 generalize ZM num a0 b0 = s0
 generalize ZM num a1 b1 = s1
 obtain ⟨st0, ls0, c0, r0, mo0⟩ := s0
 obtain ⟨st1, ls1, c1, r1, mo1⟩ := s1
 cases r0
 ·cases r1
  ·simp [zSl]
  ·simp [zSl]
 ·cases r1
  ·simp [zSl]
  ·by_cases hlt : st0 < st1
   ·simp [zSl, hlt]
   ·simp [zSl, hlt]
theorem mixed {num t lsn : Nat} {c : Yr} {a b x y : Blk} (hn : num < 64) (hc : Fit c) (hl : lsn < M64) (ht : t + 1 < M64) (ha : Sec num 0 t a) (hb : Sec num 1 t b)
  (hx : x = a ∨ x = ZE num (t + 1) lsn c 0) (hy : y = b ∨ y = ZE num (t + 1) lsn c 1) :
  (x = a ∧ y = b) ∨ (ZM num x y).right = false ∨ (ZM num x y = ⟨t + 1, lsn, c, true, 0⟩) := by
 have h1 := ha.stamp (by omega) hn (by omega)
 have h2 := hb.stamp (by omega) hn (by omega)
 have p0 := Wt num (t + 1) lsn c (i := 0) (by omega) ht
 have p1 := Wt num (t + 1) lsn c (i := 1) (by omega) ht
 rcases hx with rfl | rfl
 ·rcases hy with rfl | rfl
  ·exact .inl ⟨rfl, rfl⟩
  ·right; left
   cases hr : (ZM num x (ZE num (t + 1) lsn c 1)).right with
   | false => rfl
   | true =>
    have := says_right (ha.len (by omega)) (Ya _ _ _ _ (by omega)) hr
    rw [p1] at this; omega
 ·rcases hy with rfl | rfl
  ·right; left
   cases hr : (ZM num (ZE num (t + 1) lsn c 0) y).right with
   | false => rfl
   | true =>
    have := says_right (Ya _ _ _ _ (by omega)) (hb.len (by omega)) hr
    rw [p0] at this; omega
  ·exact .inr (.inr (says_part num (t + 1) lsn c hc (by omega) ht hl))
theorem stampsF_le {num t : Nat} {a b : Blk} (hn : num < 64) (ht : t < M64) (ha : Sec num 0 t a) (hb : Sec num 1 t b) : YN num a b ≤ t ∧ ((ZM num a b).right = true → (ZM num a b).stamp ≤ YN num a b) := by
 have h1 := ha.stamp (by omega) hn ht
 have h2 := hb.stamp (by omega) hn ht
 unfold YN
 rw [h1.1, h2.1]
 refine ⟨by omega, fun hr => ?_⟩
 have := says_right (ha.len (by omega)) (hb.len (by omega)) hr
 omega
theorem wrote {num mo lsn : Nat} {c : Yr} {a0 b0 a1 b1 x0 y0 x1 y1 : Blk} (hn : num < 64) (hc : Fit c) (hl : lsn < M64) (h0 : Sec num 0 mo a0) (h1 : Sec num 1 mo b0) (h2 : Sec num 0 mo a1) (h3 : Sec num 1 mo b1) (hmo : mo = (cs2 num a0 b0 a1 b1).most) (ht : mo + 1 < M64)
  (hx0 : x0 = a0 ∨ (cs2 num a0 b0 a1 b1).other = 0 ∧ x0 = ZE num (mo + 1) lsn c 0) (hy0 : y0 = b0 ∨ (cs2 num a0 b0 a1 b1).other = 0 ∧ y0 = ZE num (mo + 1) lsn c 1)
  (hx1 : x1 = a1 ∨ (cs2 num a0 b0 a1 b1).other = 1 ∧ x1 = ZE num (mo + 1) lsn c 0) (hy1 : y1 = b1 ∨ (cs2 num a0 b0 a1 b1).other = 1 ∧ y1 = ZE num (mo + 1) lsn c 1) :
  (Wj (cs2 num x0 y0 x1 y1) = Wj (cs2 num a0 b0 a1 b1) ∨ Wj (cs2 num x0 y0 x1 y1) = (c, lsn)) ∧
  ((if (cs2 num a0 b0 a1 b1).other = 0 then x0 = ZE num (mo + 1) lsn c 0 ∧ y0 = ZE num (mo + 1) lsn c 1 else x1 = ZE num (mo + 1) lsn c 0 ∧ y1 = ZE num (mo + 1) lsn c 1) → Wj (cs2 num x0 y0 x1 y1) = (c, lsn)) := by
 obtain ⟨e1, e2, e3⟩ := cs2_eq num a0 b0 a1 b1
 obtain ⟨f1, _, _⟩ := cs2_eq num x0 y0 x1 y1
 have g0 := stampsF_le hn (by omega) h0 h1
 have g1 := stampsF_le hn (by omega) h2 h3
 have hsp := says_part num (mo + 1) lsn c hc (by omega) ht hl
 rw [e3] at hmo
 have q0 : (ZM num a0 b0).right = true → (ZM num a0 b0).stamp ≤ mo := fun h => by have := g0.2 h; omega
 have q1 : (ZM num a1 b1).right = true → (ZM num a1 b1).stamp ≤ mo := fun h => by have := g1.2 h; omega
 by_cases ho : (cs2 num a0 b0 a1 b1).other = 0
 ·have hx1' : x1 = a1 := hx1.resolve_right (fun h => by omega)
  have hy1' : y1 = b1 := hy1.resolve_right (fun h => by omega)
  subst hx1'; subst hy1'
  rw [if_pos ho]
  have hnc : ¬ ((ZM num a0 b0).right = true ∧ ¬ ((ZM num x1 y1).right = true ∧ (ZM num a0 b0).stamp < (ZM num x1 y1).stamp)) := fun hh => by
   rw [e2, if_pos hh.1, if_neg hh.2] at ho; cases ho
  have hold : Wj (cs2 num a0 b0 x1 y1) = if (ZM num x1 y1).right = true then sayH num x1 y1 else zHeld := by
   rw [e1]
   by_cases hr : (ZM num a0 b0).right = true
   ·have hq : (ZM num x1 y1).right = true ∧ (ZM num a0 b0).stamp < (ZM num x1 y1).stamp := Classical.not_not.1 (fun h => hnc ⟨hr, h⟩)
    rw [if_pos hr, if_pos hq, if_pos hq.1]
   ·rw [if_neg hr]
  have hnew : ZM num x0 y0 = ⟨mo + 1, lsn, c, true, 0⟩ → Wj (cs2 num x0 y0 x1 y1) = (c, lsn) := fun he => by
   rw [f1, he, if_pos rfl, if_neg (fun hh => by have := q1 hh.1; have := hh.2; dsimp only at this; omega)]
   unfold sayH; rw [he]
  refine ⟨?_, fun hh => hnew (by rw [hh.1, hh.2]; exact hsp)⟩
  rcases mixed hn hc hl ht h0 h1 (hx0.imp id (·.2)) (hy0.imp id (·.2)) with ⟨rfl, rfl⟩ | hm | hm
  ·exact .inl rfl
  ·left
   rw [hold, f1, hm, if_neg (by simp)]
  ·exact .inr (hnew hm)
 ·have hx0' : x0 = a0 := hx0.resolve_right (fun h => ho h.1)
  have hy0' : y0 = b0 := hy0.resolve_right (fun h => ho h.1)
  subst hx0'; subst hy0'
  rw [if_neg ho]
  have hr : (ZM num x0 y0).right = true := Classical.not_not.1 (fun h => ho (by rw [e2, if_neg h]))
  have hnq : ¬ ((ZM num a1 b1).right = true ∧ (ZM num x0 y0).stamp < (ZM num a1 b1).stamp) := fun h => ho (by rw [e2, if_pos hr, if_pos h])
  have hold : Wj (cs2 num x0 y0 a1 b1) = sayH num x0 y0 := by rw [e1, if_pos hr, if_neg hnq]
  have hnew : ZM num x1 y1 = ⟨mo + 1, lsn, c, true, 0⟩ → Wj (cs2 num x0 y0 x1 y1) = (c, lsn) := fun he => by
   rw [f1, if_pos hr, he, if_pos ⟨rfl, by have := q0 hr; dsimp only; omega⟩]
   unfold sayH; rw [he]
  refine ⟨?_, fun hh => hnew (by rw [hh.1, hh.2]; exact hsp)⟩
  rcases mixed hn hc hl ht h2 h3 (hx1.imp id (·.2)) (hy1.imp id (·.2)) with ⟨rfl, rfl⟩ | hm | hm
  ·exact .inl rfl
  ·left
   rw [hold, f1, if_pos hr, hm, if_neg (by simp)]
  ·exact .inr (hnew hm)
theorem Sec.least {num i t m : Nat} {b : Blk} (h : Sec num i t b) (hi : i < 2) (ht : t < M64) (hm : YA b ≤ m) : Sec num i m b := by
 rcases h with h | ⟨st, lsn, c, h1, h2, rfl⟩
 ·exact .inl h
 ·rw [Wt num st lsn c hi (by omega)] at hm
  exact .inr ⟨st, lsn, c, h1, hm, rfl⟩
abbrev pg (D : DS) (base num j : Nat) : Blk := img D (base + 4 * num + j)
abbrev csD (D : DS) (base num : Nat) : CS := cs2 num (pg D base num 0) (pg D base num 1) (pg D base num 2) (pg D base num 3)
structure FO (D : DS) (base t : Nat) (held : Nat → Held) : Prop where
 dok : D.Ok
 alive : D.dead = false
 empty : YX D.secs
 len : base + 256 ≤ D.secs.length
 sec : ∀ num j, num < 64 → j < 4 → Sec num (j % 2) t (pg D base num j)
 held : ∀ num, num < 64 → Wj (csD D base num) = held num
theorem FO.congr {D D' : DS} {base t : Nat} {held : Nat → Held} (h : FO D base t held) (hs : D'.secs = D.secs) (hok : D'.Ok) (ha : D'.dead = false) : FO D' base t held := by
 have hi := Xl hs
 exact ⟨hok, ha, by rw [hs]; exact h.empty, by rw [hs]; exact h.len, fun num j h1 h2 => by unfold pg; rw [hi]; exact h.sec num j h1 h2, fun num h1 => by unfold csD pg; rw [hi]; exact h.held num h1⟩
theorem FO.crash {D : DS} {base t : Nat} {held : Nat → Held} (h : FO D base t held) (keep : Nat → Bool) : FO (D.crash keep) base t held :=
 h.congr (by simp only [DS.crash]; exact settled_empty h.empty) h.dok.crash rfl
theorem rd_ok {D : DS} (he : YX D.secs) (ha : D.dead = false) {i : Nat} (hi : i < D.secs.length) : (D.read (i : Int)).1.dead = false ∧ ((D.read (i : Int)).2.2 = 0 → (D.read (i : Int)).2.1 = img D i) := by
 unfold DS.read
 rw [if_neg (by simp [ha]), if_neg (by omega)]
 split
 ·exact ⟨ha, fun h => by simp at h⟩
 ·refine ⟨ha, fun _ => ?_⟩
  rw [img_at hi]
  simp [says1, List.getElem?_eq_getElem hi, he _ (List.getElem_mem hi)]
theorem rdSlot_img {D : DS} (he : YX D.secs) (ha : D.dead = false) {i : Nat} (hi : i + 1 < D.secs.length) : (Wv D i).1.dead = false ∧ ((Wv D i).2.2 = 0 → (Wv D i).2.1 = (img D i, img D (i + 1))) := by
 obtain ⟨h1, h2⟩ := rd_ok he ha (i := i) (by omega)
 have hs := read_secs (D := D) (i : Int)
 obtain ⟨h3, h4⟩ := rd_ok (D := (D.read (i : Int)).1) (by rw [hs]; exact he) h1 (i := i + 1) (by rw [hs]; exact hi)
 rw [Xl hs] at h4
 unfold Wv
 split
 ·rename_i hc; exact ⟨h1, fun h => absurd h hc⟩
 ·rename_i hc
  split
  ·rename_i hd; exact ⟨h3, fun h => absurd h hd⟩
  ·rename_i hd
   refine ⟨h3, fun _ => ?_⟩
   rw [h2 (Classical.not_not.1 hc), h4 (Classical.not_not.1 hd)]
theorem slD_alive {D : DS} {base num : Nat} (he : YX D.secs) (ha : D.dead = false) (hl : base + 4 * num + 4 ≤ D.secs.length) : ∀ k, k ≤ 2 → (slD D base num k).dead = false
 | 0, _ => ha
 | k + 1, hk => (rdSlot_img (D := slD D base num k) (by rw [XA]; exact he) (slD_alive he ha hl k (by omega)) (i := base + 4 * num + 2 * k) (by rw [XA]; omega)).1
theorem slR_img {D : DS} {base num k : Nat} (he : YX D.secs) (ha : D.dead = false) (hl : base + 4 * num + 4 ≤ D.secs.length) (hk : k < 2) (h0 : (slR D base num k).2.2 = 0) : (slR D base num k).2.1 = (pg D base num (2 * k), pg D base num (2 * k + 1)) := by
 have := (rdSlot_img (D := slD D base num k) (by rw [XA]; exact he) (slD_alive he ha hl k (by omega)) (i := base + 4 * num + 2 * k) (by rw [XA]; omega)).2 h0
 rw [Xl (XA D base num k)] at this
 exact this
theorem WJ {D : DS} {base num : Nat} : (ZA D base num).2.1.secs = D.secs := by
 unfold ZA
 split
 ·exact XA D base num 1
 ·split
  ·exact XA D base num 2
  ·exact XA D base num 2
theorem countsD_ok {D : DS} {base num : Nat} (h : D.Ok) : (ZA D base num).2.1.Ok := by
 unfold ZA
 split
 ·exact slD_ok h 1
 ·split
  ·exact slD_ok h 2
  ·exact slD_ok h 2
theorem countsD_alive {D : DS} {base num : Nat} (he : YX D.secs) (ha : D.dead = false) (hl : base + 4 * num + 4 ≤ D.secs.length) : (ZA D base num).2.1.dead = false := by
 unfold ZA
 split
 ·exact slD_alive he ha hl 1 (by omega)
 ·split
  ·exact slD_alive he ha hl 2 (by omega)
  ·exact slD_alive he ha hl 2 (by omega)
theorem countsD_val {D : DS} {base num : Nat} (he : YX D.secs) (ha : D.dead = false) (hl : base + 4 * num + 4 ≤ D.secs.length) (h0 : (ZA D base num).2.2 = 0) :
  (ZA D base num).1 = ({ (csD D base num).best with most := (csD D base num).most }, (csD D base num).other) := by
 unfold ZA at h0 ⊢
 split at h0
 ·rename_i hc; exact absurd h0 hc
 ·rename_i hc
  split at h0
  ·rename_i hd; exact absurd h0 hd
  ·rename_i hd
   have e0 := slR_img he ha hl (k := 0) (by omega) (Classical.not_not.1 hc)
   have e1 := slR_img he ha hl (k := 1) (by omega) (Classical.not_not.1 hd)
   rw [if_neg hc, if_neg hd]
   have y0 : (slY num (slR D base num 0)).1 = slotAt num (pg D base num 0) (pg D base num 1) := by unfold slY; rw [if_neg hc, e0]
   have y1 : (slY num (slR D base num 1)).1 = slotAt num (pg D base num 2) (pg D base num 3) := by unfold slY; rw [if_neg hd, e1]
   have : csTo D base num 2 = csD D base num := by
    show (((⟨zSl, 0, 0⟩ : CS).step 0 (slY num (slR D base num 0)).1).step 1 (slY num (slR D base num 1)).1) = _
    rw [y0, y1]; rfl
   rw [this]
theorem rdSlot_calm {D : DS} (h : D.Calm) {i : Nat} (hi : i + 1 < D.secs.length) : (Wv D i).1.Calm ∧ (Wv D i).2.2 = 0 := by
 have e1 := h.read_eq (i := i) (by omega)
 unfold Wv
 rw [e1]
 have e2 := (DS.Calm.mk' (s := D.secs) (o := IntKind.i64.wrap (D.ops + 1))).read_eq (i := i + 1) hi
 rw [if_neg (by simp), e2, if_neg (by simp)]
 exact ⟨DS.Calm.mk', rfl⟩
theorem slD_calm {D : DS} {base num : Nat} (h : D.Calm) (hl : base + 4 * num + 4 ≤ D.secs.length) : ∀ k, k ≤ 2 → (slD D base num k).Calm
 | 0, _ => h
 | k + 1, hk => (rdSlot_calm (slD_calm h hl k (by omega)) (i := base + 4 * num + 2 * k) (by rw [XA]; omega)).1
theorem countsD_calm {D : DS} {base num : Nat} (h : D.Calm) (hl : base + 4 * num + 4 ≤ D.secs.length) : (ZA D base num).2.2 = 0 ∧ (ZA D base num).2.1.Calm := by
 have e0 := (rdSlot_calm (slD_calm h hl 0 (by omega)) (i := base + 4 * num + 2 * 0) (by rw [XA]; omega)).2
 have e1 := (rdSlot_calm (slD_calm h hl 1 (by omega)) (i := base + 4 * num + 2 * 1) (by rw [XA]; omega)).2
 unfold ZA slR
 rw [if_neg (by rw [e0]; simp), if_neg (by rw [e1]; simp)]
 exact ⟨rfl, slD_calm h hl 2 (by omega)⟩
theorem FO.read {D : DS} {base t : Nat} {held : Nat → Held} (h : FO D base t held) (hc : D.Calm) {num : Nat} (hn : num < 64) : (readF D base num).1 = ((held num).1, (held num).2, 0) ∧ FO (readF D base num).2 base t held ∧ (readF D base num).2.Calm := by
 have hln := h.len
 have hl : base + 4 * num + 4 ≤ D.secs.length := by omega
 obtain ⟨e1, e2⟩ := countsD_calm hc hl
 have e3 := countsD_val h.empty h.alive hl e1
 have e4 := h.held num hn
 have hf := h.congr (D' := (ZA D base num).2.1) WJ (countsD_ok h.dok) e2.dead
 unfold Wj at e4
 unfold readF
 rw [e1, e3]
 dsimp only
 by_cases hr : (csD D base num).best.right = true
 ·rw [if_pos hr] at e4
  rw [if_neg (by simp [hr]), ← e4]
  exact ⟨rfl, hf, e2⟩
 ·rw [if_neg hr] at e4
  rw [if_pos (.inr (by simpa using hr)), ← e4]
  exact ⟨rfl, hf, e2⟩
def upd (f : Nat → Held) (n : Nat) (v : Held) : Nat → Held := fun k => if k = n then v else f k
theorem upd_self (f : Nat → Held) (n : Nat) : upd f n (f n) = f := by funext k; unfold upd; split <;> simp_all
def zTri : Nat × Nat × Yr := (0, 0, ⟨0, [], []⟩)
def triS (s : SlD) : Nat × Nat × Yr := (s.stamp, s.lsn, s.c)
def slotF (num : Nat) (a b : Blk) : Nat × Nat × Yr := if (ZM num a b).right = true then triS (ZM num a b) else zTri
def whichF (num : Nat) (a0 b0 a1 b1 : Blk) : Int :=
 if (ZM num a0 b0).right = true ∧ ((ZM num a1 b1).right = false ∨ (ZM num a1 b1).stamp ≤ (ZM num a0 b0).stamp) then 0
 else if (ZM num a1 b1).right = true then 1 else -1
def cntF (num : Nat) (a0 b0 a1 b1 : Blk) : Nat × Nat × Yr :=
 if whichF num a0 b0 a1 b1 = 0 then triS (ZM num a0 b0) else if whichF num a0 b0 a1 b1 = 1 then triS (ZM num a1 b1) else zTri
def XX (num : Nat) (a0 b0 a1 b1 : Blk) : Nat := max (YN num a0 b0) (YN num a1 b1)
theorem cntF_held (num : Nat) (a0 b0 a1 b1 : Blk) : Wj (cs2 num a0 b0 a1 b1) = ((cntF num a0 b0 a1 b1).2.2, (cntF num a0 b0 a1 b1).2.1) ∧
  (cs2 num a0 b0 a1 b1).other = (if whichF num a0 b0 a1 b1 = 0 then 1 else 0) ∧ (cs2 num a0 b0 a1 b1).most = XX num a0 b0 a1 b1 := by
 obtain ⟨h1, h2, h3⟩ := cs2_eq num a0 b0 a1 b1
 rw [h1, h2]
 refine ⟨?_, ?_, h3⟩
 all_goals (try unfold cntF)
 all_goals unfold whichF
 all_goals (try unfold sayH triS zHeld zTri)
 all_goals generalize ZM num a0 b0 = s0
 all_goals generalize ZM num a1 b1 = s1
 all_goals obtain ⟨st0, ls0, c0, r0, mo0⟩ := s0
 all_goals obtain ⟨st1, ls1, c1, r1, mo1⟩ := s1
 all_goals cases r0 <;> cases r1
 all_goals by_cases hlt : st0 < st1
 all_goals have hle : (st1 ≤ st0) ↔ ¬ st0 < st1 := by omega
 all_goals simp [hlt, hle]
theorem two_at {X Y : Bs} {n i : Nat} (hX : X.length = n) (hY : Y.length = n) (hi : i < 2) : (((X ++ Y).map Zs).drop (i * n)).take n = (if i = 0 then X else Y).map Zs := by
 rcases (show i = 0 ∨ i = 1 by omega) with rfl | rfl
 ·rw [List.map_append, Nat.zero_mul, List.drop_zero, List.take_left' (by simpa using hX)]; rfl
 ·rw [List.map_append, Nat.one_mul, List.drop_left' (by simpa using hX), List.take_of_length_le (by simp; omega)]; rfl
def stTo (num : Nat) (a0 b0 a1 b1 : Blk) (j : Nat) : Nat := if j = 0 then 0 else if j = 1 then YN num a0 b0 else XX num a0 b0 a1 b1
theorem stampsTo_lt (num : Nat) (a b : Blk) (i : Nat) : Yx num a b i < 18446744073709551616 := by
 have h1 := Wx a; have h2 := Wx b
 unfold Yx YN XG; repeat' split
 all_goals omega
theorem stTo_lt (num : Nat) (a0 b0 a1 b1 : Blk) (i : Nat) : stTo num a0 b0 a1 b1 i < 18446744073709551616 := by
 have h1 := stampsTo_lt num a0 b0 2
 have h2 := stampsTo_lt num a1 b1 2
 simp only [Yx] at h1 h2
 unfold stTo XX; repeat' split
 all_goals simp_all
 all_goals omega
theorem fill_two {A B Z : List Value} {n : Nat} (hA : A.length = n) (hB : B.length = n) (hZ : Z.length = n + n) : Instr.fill (fun i => some (i * n, n)) ⟨Z⟩ [(0, .agg ⟨A⟩), (1, .agg ⟨B⟩)] = some ⟨A ++ B⟩ := by
 have e1 : stc Z (0 * n) A = A ++ Z.drop n := by unfold stc; simp [hA]
 have e2 : stc (A ++ Z.drop n) (1 * n) B = A ++ B := by
  unfold stc
  rw [Nat.one_mul, List.take_left' hA, List.drop_of_length_le (by simp; omega)]; simp
 rw [fill_cons (off := 0 * n) (size := n) (cs := A) rfl rfl hA (by omega), e1, fill_cons (off := 1 * n) (size := n) (cs := B) rfl rfl hB (by simp; omega), e2]
 rfl
theorem stamp14_spec (ρ : Hp) (num : Nat) (hnum : num < 64) (a0 b0 a1 b1 : Blk) (ha0 : a0.length = 64) (hb0 : b0.length = 64) (ha1 : a1.length = 64) (hb1 : b1.length = 64) :
  Spec Tryz.prog 18 [.agg ⟨(a0 ++ b0).map Zs⟩, .agg ⟨(a1 ++ b1).map Zs⟩, .int .i64 num] ρ [] (fun v ρ' L' => v = .int .u64 (XX num a0 b0 a1 b1 : Nat) ∧ ρ.le ρ' ∧ L' = []) := by
 have hab : ((a0 ++ b0).map Zs).length = 128 := by simp [ha0, hb0]
 have hab1 : ((a1 ++ b1).map Zs).length = 128 := by simp [ha1, hb1]
 have hone := ZI (a0 ++ b0)
 have hone1 := ZI (a1 ++ b1)
 have hAA : (a0 ++ b0).length = 128 := by simp [ha0, hb0]
 have hBB : (a1 ++ b1).length = 128 := by simp [ha1, hb1]
 refine Zf Tryz.func18 rfl rfl rfl fun u R => ?_
 simp only [Zv, List.cons_append, List.nil_append]
 have hfill := fill_two (Z := List.replicate 256 (.int .u8 0)) hab hab1 (by simp)
 rw [← List.map_append] at hfill
 have htwo : ∀ j, j < 2 → ((((a0 ++ b0) ++ (a1 ++ b1)).map Zs).drop (j * 128)).take 128 = (if j = 0 then a0 ++ b0 else a1 ++ b1).map Zs := fun j hj => two_at hAA hBB hj
 generalize (a0 ++ b0) ++ (a1 ++ b1) = W at *
 repeat' (first | (refine Yb (XQ (cells := ⟨W.map Zs⟩) rfl hfill) rfl rfl ?_) | (refine iBu ?_; refine Yb (Zy rfl) rfl rfl ?_) | (refine Zg ?_; first | (refine Ze ?_; refine qQ ?_) | refine Zj ?_) | refine Za ?_ | (refine Zh ?_; refine Zq ?_) | (refine Zi ?_; refine Zr ?_) | intro _)
 refine ZB [(2, _), (6, _), (14, _)] (fun (ζ : (Nat) × (Hp)) => [(15, .int .i64 ζ.1), (7, .int .u64 (stTo num a0 b0 a1 b1 ζ.1 : Nat))]) (fun (ζ : (Nat) × (Hp)) => ζ.2) (fun (ζ : (Nat) × (Hp)) => []) (fun (ζ : (Nat) × (Hp)) => ζ.1 ≤ 2 ∧ ρ.le ζ.2) (fun (ζ : (Nat) × (Hp)) => 2 - ζ.1) ((0, ρ)) (⟨Nat.zero_le _, Hp.le_refl _⟩) Zm Zm rfl tk ?_
 rintro ⟨j, ρ5⟩ hI
 try simp only [List.cons_append, List.nil_append, List.append_assoc, List.append_eq] at hI ⊢
 try dsimp only at hI ⊢
 obtain ⟨hj, hl5⟩ := hI
 by_cases hj2 : j < 2
 ·have hxj := htwo j hj2
  obtain ⟨A, B, hA, hB, hAB, hst⟩ : ∃ A B : Blk, A.length = 64 ∧ B.length = 64 ∧ (if j = 0 then a0 ++ b0 else a1 ++ b1) = A ++ B ∧ stTo num a0 b0 a1 b1 (j + 1) = max (stTo num a0 b0 a1 b1 j) (YN num A B) := by
   rcases (show j = 0 ∨ j = 1 by omega) with rfl | rfl
   ·exact ⟨a0, b0, ha0, hb0, rfl, by simp [stTo]⟩
   ·exact ⟨a1, b1, ha1, hb1, rfl, by simp [stTo, XX]⟩
  rw [hAB] at hxj
  have hlt0 := stTo_lt num a0 b0 a1 b1 j
  have hAl : ((A ++ B).map Zs).length = 128 := by simp [hA, hB]
  have hAo := ZI (A ++ B)
  have hst0 : stTo num a0 b0 a1 b1 j = max (stTo num a0 b0 a1 b1 j) (Yx num A B 0) := by simp [Yx]
  rw [show YN num A B = Yx num A B 2 by simp [Yx]] at hst
  generalize stTo num a0 b0 a1 b1 j = S at *
  repeat' (first | (refine Yb (y_index_a rfl rfl hj2 hxj) rfl rfl ?_) | (refine iBu ?_; refine Yb (Zy rfl) rfl rfl ?_) | (refine Zg ?_; first | (refine Ze ?_; refine qQ ?_) | refine Zj ?_) | refine Za ?_ | (refine Zh ?_; refine Zq ?_) | (refine Zi ?_; refine Zr ?_) | intro _)
  rename_i bx9
  refine ZB [(2, _), (6, _), (9, _), (14, _), (15, _), (16, _), (17, _), (18, _)] (fun (ζ : (Nat) × (Hp) × (Nat)) => [(19, .int .i64 ζ.1), (7, .int .u64 ζ.2.2)]) (fun (ζ : (Nat) × (Hp) × (Nat)) => ζ.2.1) (fun (ζ : (Nat) × (Hp) × (Nat)) => [[(bx9, .cells ⟨(A ++ B).map Zs⟩ 52 (0, 0))]]) (fun (ζ : (Nat) × (Hp) × (Nat)) => ζ.1 ≤ 2 ∧ ρ5.le ζ.2.1 ∧ ζ.2.2 = max S (Yx num A B ζ.1)) (fun (ζ : (Nat) × (Hp) × (Nat)) => 2 - ζ.1) ((0, ρ5, S)) (⟨Nat.zero_le _, Hp.le_refl _, hst0⟩) Zm Zm rfl tk ?_
  rintro ⟨i, ρ6, y⟩ hI
  try simp only [List.cons_append, List.nil_append, List.append_assoc, List.append_eq] at hI ⊢
  try dsimp only at hI ⊢
  obtain ⟨hi, hl6, hy⟩ := hI
  by_cases hlt : i < 2
  ·obtain ⟨blk, hbl, hix, hnx⟩ : ∃ blk : Blk, blk.length = 64 ∧ (((A ++ B).map Zs).drop (i * 64)).take 64 = blk.map Zs ∧ max (Yx num A B i) (XG num i blk) = Yx num A B (i + 1) := by
    refine ⟨if i = 0 then A else B, by split <;> assumption, two_at hA hB hlt, ?_⟩
    rcases (show i = 0 ∨ i = 1 by omega) with rfl | rfl
    ·simp [Yx]
    ·simp [Yx, YN]
   have hb64 : (blk.map Zs).length = 64 := by simpa using hbl
   have hbo := ZI blk
   have hyl : y < 18446744073709551616 := by
    have := stampsTo_lt num A B i
    omega
   repeat' (first | (refine Yb (y_index_a rfl rfl hlt hix) rfl rfl ?_) | (refine iBu ?_; refine Yb (Zy rfl) rfl rfl ?_) | (refine Zg ?_; first | (refine Ze ?_; refine qQ ?_) | refine Zj ?_) | refine Za ?_ | (refine Zh ?_; refine Zq ?_) | (refine Zi ?_; refine Zr ?_) | intro _)
   rename_i b7
   refine Wf [(b7, .cells ⟨blk.map Zs⟩ 51 (0, 0))] (h := by infer_instance) (fun ρ7 hl7 hfz => ?_)
   have hbs := hfz _ (List.mem_singleton.2 rfl)
   dsimp only at hbs
   have hs60 := WQ hbs 60 4 (by omega)
   have hsA := WQ hbs 0 60 (by omega)
   have hs2 := WQ hbs 2 8 (by omega)
   rw [List.drop_zero] at hsA
   have hx60 : ZP ((blk.drop 60).take 4) = ZP (blk.drop 60) := by rw [List.take_of_length_le (by simp; omega)]
   have hx8 : ZP ((blk.drop 2).take 8) = YA blk := rfl
   have hc0 : (blk.map Zs)[0 + Int.toNat 0 * 1]? = some (Zs (blk.getD 0 0)) := by
    rw [show 0 + Int.toNat 0 * 1 = 0 from rfl, List.getElem?_map, List.getD_eq_getElem?_getD, List.getElem?_eq_getElem (by omega)]; rfl
   have hc1 : (blk.map Zs)[0 + Int.toNat 1 * 1]? = some (Zs (blk.getD 1 0)) := by
    rw [show 0 + Int.toNat 1 * 1 = 1 from rfl, List.getElem?_map, List.getD_eq_getElem?_getD, List.getElem?_eq_getElem (by omega)]; rfl
   have hl0 := (blk.getD 0 0).toNat_lt
   have hl1 := (blk.getD 1 0).toNat_lt
   have hsl := sumB_lt (blk.take 60)
   by_cases h0 : (blk.getD 0 0).toNat = num
   ·by_cases h1 : (blk.getD 1 0).toNat = i
    ·by_cases h2 : ZP (blk.drop 60) = sumB (blk.take 60)
     ·have h2' : ((sumB (blk.take 60) : Nat) : Int) = ((ZP (blk.drop 60) : Nat) : Int) := by rw [h2]
      have hR : XG num i blk = YA blk := if_pos ⟨h0, h1, h2⟩
      rw [hR] at hnx
      have hyn : max y (YA blk) = max S (Yx num A B (i + 1)) := by rw [← hnx, hy]; omega
      refine ZD (Zo _ _ ([])) (Zx (hT := tk) (Hp.le_refl _)) ?_
      all_goals (refine rIa 0 ?_; refine rLd 1 ?_; refine rCv 2 ?_; refine ZO 3 ?_; refine rCm 4 ?_; refine ZO 5 ?_; (first | refine Zc 6 ?_ | refine Zb 6 ?_ | refine wIa 6 ?_); (first | refine Zc 7 ?_ | refine Zb 7 ?_ | refine wLd 7 ?_); (first | refine Zc 8 ?_ | refine Zb 8 ?_ | refine wCv 8 ?_); (first | refine Zc 9 ?_ | refine Zb 9 ?_ | refine ZU 9 ?_); (first | refine Zc 10 ?_ | refine Zb 10 ?_ | refine wCm 10 ?_); refine rPk 11 ?_; refine ZO 12 ?_; (first | refine Zc 13 ?_ | refine Zb 13 ?_ | refine wSl 13 ?_); (first | refine Zc 16 ?_ | refine Zb 16 ?_ | refine wSl 16 ?_))
      all_goals (first | refine Zc 14 ?_ | refine Zb 14 ?_ | (refine Zn (i := 14) ?_; ((try refine Zk ?_); (first | (refine Zd (.func 39) ?_; refine qC rfl rfl (Sum32_spec _ _ 60 _ _ hsA (by omega)) ?_; rintro v ρ' L' hle ⟨rfl, rfl, rfl⟩ <;> (try simp only [kM, kN, kO])) | (refine Zj ?_; try intro _)) <;> ((try simp only [kM, kN, kO]); refine Za ?_; refine Zl ?_))))
      all_goals (first | refine Zc 15 ?_ | refine Zb 15 ?_ | refine wCv 15 ?_)
      all_goals (first | refine Zc 17 ?_ | refine Zb 17 ?_ | (refine Zn (i := 17) ?_; ((try refine Zk ?_); (first | (refine Zd (.func 40) ?_; refine qC rfl rfl (Xt _ _ 4 _ _ hs60 (by omega)) ?_; rintro v ρ' L' hle ⟨rfl, rfl, rfl⟩ <;> (try simp only [kM, kN, kO, hx60])) | (refine Zj ?_; try intro _)) <;> ((try simp only [kM, kN, kO]); refine Za ?_; refine Zl ?_))))
      all_goals (refine ZR ?_; (first | refine Zc 18 ?_ | refine Zb 18 ?_ | refine wCm 18 ?_); refine rPk 19 ?_; refine ZH ?_)
      all_goals (repeat' (first | (refine Zd (.func 40) ?_; refine qC rfl rfl (Xt _ _ 8 _ _ hs2 (by omega)) ?_; rintro v ρ' L' hle ⟨rfl, rfl, rfl⟩ <;> (try simp only [kM, kN, kO, hx8])) | (refine iBu ?_; refine Yb (Zy rfl) rfl rfl ?_) | (refine Zg ?_; first | (refine Ze ?_; refine qQ ?_) | refine Zj ?_) | refine Za ?_ | (refine Zh ?_; refine Zq ?_) | (refine Zi ?_; refine Zr ?_) | intro _))
      all_goals rw [show max ((y : Nat) : Int) ((YA blk : Nat) : Int) = ((max y (YA blk) : Nat) : Int) by omega]
      all_goals refine Zp (i + 1, _, max y (YA blk)) (⟨hlt, Hp.le_trans hl6 hl7, hyn⟩) Zm Zm rfl tk inferInstance (by first | omega | (dsimp only; omega))
     ·have h2' : ¬ ((sumB (blk.take 60) : Nat) : Int) = ((ZP (blk.drop 60) : Nat) : Int) := by omega
      have hR0 : XG num i blk = 0 := if_neg (fun hh => h2 hh.2.2)
      rw [hR0] at hnx
      have hyn : y = max S (Yx num A B (i + 1)) := by rw [← hnx, hy]; omega
      refine ZD (Zo _ _ ([])) (Zx (hT := tk) (Hp.le_refl _)) ?_
      all_goals (refine rIa 0 ?_; refine rLd 1 ?_; refine rCv 2 ?_; refine ZO 3 ?_; refine rCm 4 ?_; refine ZO 5 ?_; (first | refine Zc 6 ?_ | refine Zb 6 ?_ | refine wIa 6 ?_); (first | refine Zc 7 ?_ | refine Zb 7 ?_ | refine wLd 7 ?_); (first | refine Zc 8 ?_ | refine Zb 8 ?_ | refine wCv 8 ?_); (first | refine Zc 9 ?_ | refine Zb 9 ?_ | refine ZU 9 ?_); (first | refine Zc 10 ?_ | refine Zb 10 ?_ | refine wCm 10 ?_); refine rPk 11 ?_; refine ZO 12 ?_; (first | refine Zc 13 ?_ | refine Zb 13 ?_ | refine wSl 13 ?_); (first | refine Zc 16 ?_ | refine Zb 16 ?_ | refine wSl 16 ?_))
      all_goals (first | refine Zc 14 ?_ | refine Zb 14 ?_ | (refine Zn (i := 14) ?_; ((try refine Zk ?_); (first | (refine Zd (.func 39) ?_; refine qC rfl rfl (Sum32_spec _ _ 60 _ _ hsA (by omega)) ?_; rintro v ρ' L' hle ⟨rfl, rfl, rfl⟩ <;> (try simp only [kM, kN, kO])) | (refine Zj ?_; try intro _)) <;> ((try simp only [kM, kN, kO]); refine Za ?_; refine Zl ?_))))
      all_goals (first | refine Zc 15 ?_ | refine Zb 15 ?_ | refine wCv 15 ?_)
      all_goals (first | refine Zc 17 ?_ | refine Zb 17 ?_ | (refine Zn (i := 17) ?_; ((try refine Zk ?_); (first | (refine Zd (.func 40) ?_; refine qC rfl rfl (Xt _ _ 4 _ _ hs60 (by omega)) ?_; rintro v ρ' L' hle ⟨rfl, rfl, rfl⟩ <;> (try simp only [kM, kN, kO, hx60])) | (refine Zj ?_; try intro _)) <;> ((try simp only [kM, kN, kO]); refine Za ?_; refine Zl ?_))))
      all_goals (refine ZR ?_; (first | refine Zc 18 ?_ | refine Zb 18 ?_ | refine wCm 18 ?_); refine rPk 19 ?_; refine ZH ?_)
      all_goals (repeat' (first | (refine iBu ?_; refine Yb (Zy rfl) rfl rfl ?_) | (refine Zg ?_; first | (refine Ze ?_; refine qQ ?_) | refine Zj ?_) | refine Za ?_ | (refine Zh ?_; refine Zq ?_) | (refine Zi ?_; refine Zr ?_) | intro _))
      all_goals refine Zp (i + 1, _, y) (⟨hlt, Hp.le_trans hl6 hl7, hyn⟩) Zm Zm rfl tk inferInstance (by first | omega | (dsimp only; omega))
    ·have hR0 : XG num i blk = 0 := if_neg (fun hh => h1 hh.2.1)
     rw [hR0] at hnx
     have hyn : y = max S (Yx num A B (i + 1)) := by rw [← hnx, hy]; omega
     refine ZD (Zo _ _ ([])) (Zx (hT := tk) (Hp.le_refl _)) ?_
     all_goals (refine rIa 0 ?_; refine rLd 1 ?_; refine rCv 2 ?_; refine ZO 3 ?_; refine rCm 4 ?_; refine ZO 5 ?_; (first | refine Zc 6 ?_ | refine Zb 6 ?_ | refine wIa 6 ?_); (first | refine Zc 7 ?_ | refine Zb 7 ?_ | refine wLd 7 ?_); (first | refine Zc 8 ?_ | refine Zb 8 ?_ | refine wCv 8 ?_); (first | refine Zc 9 ?_ | refine Zb 9 ?_ | refine ZU 9 ?_); (first | refine Zc 10 ?_ | refine Zb 10 ?_ | refine wCm 10 ?_); refine rPk 11 ?_; refine ZO 12 ?_; (first | refine Zc 13 ?_ | refine Zb 13 ?_ | refine wSl 13 ?_); (first | refine Zc 16 ?_ | refine Zb 16 ?_ | refine wSl 16 ?_))
     all_goals (first | refine Zc 14 ?_ | refine Zb 14 ?_ | (refine Zn (i := 14) ?_; ((try refine Zk ?_); (first | (refine Zj ?_; try intro _)) <;> ((try simp only [kM, kN, kO]); refine Za ?_; refine Zl ?_))))
     all_goals (first | refine Zc 15 ?_ | refine Zb 15 ?_ | refine wCv 15 ?_)
     all_goals (first | refine Zc 17 ?_ | refine Zb 17 ?_ | (refine Zn (i := 17) ?_; ((try refine Zk ?_); (first | (refine Zj ?_; try intro _)) <;> ((try simp only [kM, kN, kO]); refine Za ?_; refine Zl ?_))))
     all_goals (refine ZR ?_; (first | refine Zc 18 ?_ | refine Zb 18 ?_ | refine wCm 18 ?_); refine rPk 19 ?_; refine ZH ?_)
     all_goals (repeat' (first | (refine iBu ?_; refine Yb (Zy rfl) rfl rfl ?_) | (refine Zg ?_; first | (refine Ze ?_; refine qQ ?_) | refine Zj ?_) | refine Za ?_ | (refine Zh ?_; refine Zq ?_) | (refine Zi ?_; refine Zr ?_) | intro _))
     all_goals refine Zp (i + 1, ρ7, y) (⟨hlt, Hp.le_trans hl6 hl7, hyn⟩) Zm Zm rfl tk inferInstance (by first | omega | (dsimp only; omega))
   ·have hR0 : XG num i blk = 0 := if_neg (fun hh => h0 hh.1)
    rw [hR0] at hnx
    have hyn : y = max S (Yx num A B (i + 1)) := by rw [← hnx, hy]; omega
    refine ZD (Zo _ _ ([])) (Zx (hT := tk) (Hp.le_refl _)) ?_
    all_goals (refine rIa 0 ?_; refine rLd 1 ?_; refine rCv 2 ?_; refine ZO 3 ?_; refine rCm 4 ?_; refine ZO 5 ?_; (first | refine Zc 6 ?_ | refine Zb 6 ?_ | refine wIa 6 ?_); (first | refine Zc 7 ?_ | refine Zb 7 ?_ | refine wLd 7 ?_); (first | refine Zc 8 ?_ | refine Zb 8 ?_ | refine wCv 8 ?_); (first | refine Zc 9 ?_ | refine Zb 9 ?_ | refine ZU 9 ?_); (first | refine Zc 10 ?_ | refine Zb 10 ?_ | refine wCm 10 ?_); refine rPk 11 ?_; refine ZO 12 ?_; (first | refine Zc 13 ?_ | refine Zb 13 ?_ | refine wSl 13 ?_); (first | refine Zc 16 ?_ | refine Zb 16 ?_ | refine wSl 16 ?_))
    all_goals (first | refine Zc 14 ?_ | refine Zb 14 ?_ | (refine Zn (i := 14) ?_; ((try refine Zk ?_); (first | (refine Zj ?_; try intro _)) <;> ((try simp only [kM, kN, kO]); refine Za ?_; refine Zl ?_))))
    all_goals (first | refine Zc 15 ?_ | refine Zb 15 ?_ | refine wCv 15 ?_)
    all_goals (first | refine Zc 17 ?_ | refine Zb 17 ?_ | (refine Zn (i := 17) ?_; ((try refine Zk ?_); (first | (refine Zj ?_; try intro _)) <;> ((try simp only [kM, kN, kO]); refine Za ?_; refine Zl ?_))))
    all_goals (refine ZR ?_; (first | refine Zc 18 ?_ | refine Zb 18 ?_ | refine wCm 18 ?_); refine rPk 19 ?_; refine ZH ?_)
    all_goals (repeat' (first | (refine iBu ?_; refine Yb (Zy rfl) rfl rfl ?_) | (refine Zg ?_; first | (refine Ze ?_; refine qQ ?_) | refine Zj ?_) | refine Za ?_ | (refine Zh ?_; refine Zq ?_) | (refine Zi ?_; refine Zr ?_) | intro _))
    all_goals refine Zp (i + 1, ρ7, y) (⟨hlt, Hp.le_trans hl6 hl7, hyn⟩) Zm Zm rfl tk inferInstance (by first | omega | (dsimp only; omega))
  ·obtain rfl : i = 2 := by omega
   rw [← hst] at hy
   subst hy
   repeat' (first | (refine iBu ?_; refine Yb (Zy rfl) rfl rfl ?_) | (refine Zg ?_; first | (refine Ze ?_; refine qQ ?_) | refine Zj ?_) | refine Za ?_ | (refine Zh ?_; refine Zq ?_) | (refine Zi ?_; refine Zr ?_) | intro _)
   refine Zp (j + 1, _) (⟨hj2, Hp.le_trans hl5 hl6⟩) Zm Zm rfl tk inferInstance (by first | omega | (dsimp only; omega))
 ·obtain rfl : j = 2 := by omega
  rw [show stTo num a0 b0 a1 b1 2 = XX num a0 b0 a1 b1 from rfl]
  repeat' (first | (refine iBu ?_; refine Yb (Zy rfl) rfl rfl ?_) | (refine Zg ?_; first | (refine Ze ?_; refine qQ ?_) | refine Zj ?_) | refine Za ?_ | (refine Zh ?_; refine Zq ?_) | (refine Zi ?_; refine Zr ?_) | intro _)
  exact qE (L' := []) ⟨rfl, hl5, rfl⟩
theorem sameR_spec (ρ : Hp) (w w' : CV) (c d : Yr) (h : CIn ρ w c.rows c.kids) (h' : CIn ρ w' d.rows d.kids) :
  Spec Tryz.prog 10 [.agg ⟨Yt c.kind w⟩, .agg ⟨Yt d.kind w'⟩] ρ [] (fun v ρ' L' => v = .bool (decide (c = d)) ∧ ρ' = ρ ∧ L' = []) := by
 obtain ⟨kind, rows, kids⟩ := c
 obtain ⟨kind', rows', kids'⟩ := d
 obtain ⟨ra, rn, rc, ka, kn, kc⟩ := w
 obtain ⟨ra', rn', rc', ka', kn', kc'⟩ := w'
 obtain ⟨hr, hk, hrb, hkb, hrc, hkc⟩ := h
 obtain ⟨hr', hk', hrb', hkb', hrc', hkc'⟩ := h'
 dsimp only at hrc hkc hr hk hrb hkb hrc' hkc' hr' hk' hrb' hkb' ⊢
 have hrn := hr.len
 have hkn := hk.len
 have hrn' := hr'.len
 have hkn' := hk'.len
 simp only [Yr.mk.injEq]
 refine Zf Tryz.func10 rfl rfl rfl fun u R => ?_
 simp only [Zv, List.cons_append, List.nil_append, Yt]
 by_cases h1 : kind = kind'
 ·by_cases h2 : rn = rn'
  ·by_cases h3 : kn = kn'
   ·subst h1; subst h2; subst h3
    repeat' (first | (refine Zg ?_; first | (refine Ze ?_; refine qQ ?_) | refine Zj ?_) | refine Za ?_ | (refine Zh ?_; refine Zq ?_) | (refine Zi ?_; refine Zr ?_) | intro _)
    rename_i b1 b2
    refine ZB [(2, _), (3, _), (4, _), (32, _)] (fun (ζ : (Nat)) => [(33, .int .i64 ζ)]) (fun (ζ : (Nat)) => ρ) (fun (ζ : (Nat)) => [[(b2, .cells ⟨[.int .i64 kind, .slice ra' rn rc', .slice ka' kn kc']⟩ 36 (0, 0))], [(b1, .cells ⟨[.int .i64 kind, .slice ra rn rc, .slice ka kn kc]⟩ 36 (0, 0))]]) (fun (ζ : (Nat)) => ζ ≤ rn ∧ rows.take ζ = rows'.take ζ) (fun (ζ : (Nat)) => rn - ζ) (0) (⟨Nat.zero_le _, rfl⟩) Zm Zm rfl tk ?_
    rintro k hI
    try simp only [List.cons_append, List.nil_append, List.append_assoc, List.append_eq] at hI ⊢
    try dsimp only at hI ⊢
    obtain ⟨hk0, hpre⟩ := hI
    by_cases hlt : k < rn
    ·obtain ⟨b, off, C, T, fr, rfl, hb, hfit, hc⟩ := hr.get (show k < rows.length by omega)
     obtain ⟨b', off', C', T', fr', rfl, hb', hfit', hc'⟩ := hr'.get (show k < rows'.length by omega)
     have ht1 := List.take_succ_eq_append_getElem (show k < rows.length by omega)
     have ht2 := List.take_succ_eq_append_getElem (show k < rows'.length by omega)
     have hf : rows = rows' → rows[k]'(by omega) = rows'[k]'(by omega) := fun e => by subst e; rfl
     generalize rows[k]'(by omega) = x at *
     generalize rows'[k]'(by omega) = y at *
     by_cases he : x = y
     ·have hd : decide (x = y) = true := decide_eq_true he
      repeat' (first | (refine Zg ?_; first | (refine Ze ?_; refine qQ ?_) | refine Zj ?_) | refine Za ?_ | (refine Zh ?_; refine Zq ?_) | (refine Zi ?_; refine Zr ?_) | intro _)
      refine ZD (Zo _ _ ([[(b2, .cells ⟨[.int .i64 kind, .slice (some ⟨b', off', none⟩) rn rc', .slice ka' kn kc']⟩ 36 (0, 0))], [(b1, .cells ⟨[.int .i64 kind, .slice (some ⟨b, off, none⟩) rn rc, .slice ka kn kc]⟩ 36 (0, 0))]])) (Zx (hT := tk) (Hp.le_refl _)) ?_
      all_goals (refine rFa 0 ?_; refine ZR ?_; refine rLd 1 ?_; refine ZO 2 ?_; refine rIa 3 ?_; refine rLd 4 ?_; refine rFa 5 ?_; refine rLd 6 ?_; refine ZO 7 ?_; refine rIa 8 ?_; refine rLd 9 ?_; refine rCm 10 ?_; refine ZH ?_)
      repeat' (first | (refine Zg ?_; first | (refine Ze ?_; refine qQ ?_) | refine Zj ?_) | refine Za ?_ | (refine Zh ?_; refine Zq ?_) | (refine Zi ?_; refine Zr ?_) | intro _)
      refine Zp (k + 1) (⟨hlt, by rw [ht1, ht2, hpre, he]⟩) Zm Zm rfl tk inferInstance (by first | omega | (dsimp only; omega))
     ·have hd : decide (x = y) = false := decide_eq_false he
      rw [decide_eq_false (fun e => he (hf e.2.1))]
      repeat' (first | (refine Zg ?_; first | (refine Ze ?_; refine qQ ?_) | refine Zj ?_) | refine Za ?_ | (refine Zh ?_; refine Zq ?_) | (refine Zi ?_; refine Zr ?_) | intro _)
      refine ZD (Zo _ _ ([[(b2, .cells ⟨[.int .i64 kind, .slice (some ⟨b', off', none⟩) rn rc', .slice ka' kn kc']⟩ 36 (0, 0))], [(b1, .cells ⟨[.int .i64 kind, .slice (some ⟨b, off, none⟩) rn rc, .slice ka kn kc]⟩ 36 (0, 0))]])) (Zx (hT := tk) (Hp.le_refl _)) ?_
      all_goals (refine rFa 0 ?_; refine ZR ?_; refine rLd 1 ?_; refine ZO 2 ?_; refine rIa 3 ?_; refine rLd 4 ?_; refine rFa 5 ?_; refine rLd 6 ?_; refine ZO 7 ?_; refine rIa 8 ?_; refine rLd 9 ?_; refine rCm 10 ?_; refine ZH ?_)
      repeat' (first | (refine Zg ?_; first | (refine Ze ?_; refine qQ ?_) | refine Zj ?_) | refine Za ?_ | (refine Zh ?_; refine Zq ?_) | (refine Zi ?_; refine Zr ?_) | intro _)
      exact qE ⟨rfl, rfl, rfl⟩
    ·have hk2 : k = rn := by omega
     subst hk2
     rw [List.take_of_length_le (by omega), List.take_of_length_le (by omega)] at hpre
     subst hpre
     repeat' (first | (refine Zg ?_; first | (refine Ze ?_; refine qQ ?_) | refine Zj ?_) | refine Za ?_ | (refine Zh ?_; refine Zq ?_) | (refine Zi ?_; refine Zr ?_) | intro _)
     refine ZB [(2, _), (3, _), (4, _), (50, _)] (fun (ζ : (Nat)) => [(51, .int .i64 ζ)]) (fun (ζ : (Nat)) => ρ) (fun (ζ : (Nat)) => [[(b2, .cells ⟨[.int .i64 kind, .slice ra' k rc', .slice ka' kn kc']⟩ 36 (0, 0))], [(b1, .cells ⟨[.int .i64 kind, .slice ra k rc, .slice ka kn kc]⟩ 36 (0, 0))]]) (fun (ζ : (Nat)) => ζ ≤ kn ∧ kids.take ζ = kids'.take ζ) (fun (ζ : (Nat)) => kn - ζ) (0) (⟨Nat.zero_le _, rfl⟩) Zm Zm rfl tk ?_
     rintro j hI
     try simp only [List.cons_append, List.nil_append, List.append_assoc, List.append_eq] at hI ⊢
     try dsimp only at hI ⊢
     obtain ⟨hj0, hpre⟩ := hI
     by_cases hlj : j < kn
     ·obtain ⟨b, off, C, T, fr, rfl, hb, hfit, hc⟩ := hk.get (show j < kids.length by omega)
      obtain ⟨b', off', C', T', fr', rfl, hb', hfit', hc'⟩ := hk'.get (show j < kids'.length by omega)
      have ht1 := List.take_succ_eq_append_getElem (show j < kids.length by omega)
      have ht2 := List.take_succ_eq_append_getElem (show j < kids'.length by omega)
      have hf : kids = kids' → kids[j]'(by omega) = kids'[j]'(by omega) := fun e => by subst e; rfl
      generalize kids[j]'(by omega) = x at *
      generalize kids'[j]'(by omega) = y at *
      by_cases he : x = y
      ·have hd : decide (x = y) = true := decide_eq_true he
       repeat' (first | (refine Zg ?_; first | (refine Ze ?_; refine qQ ?_) | refine Zj ?_) | refine Za ?_ | (refine Zh ?_; refine Zq ?_) | (refine Zi ?_; refine Zr ?_) | intro _)
       refine ZD (Zo _ _ ([[(b2, .cells ⟨[.int .i64 kind, .slice ra' k rc', .slice (some ⟨b', off', none⟩) kn kc']⟩ 36 (0, 0))], [(b1, .cells ⟨[.int .i64 kind, .slice ra k rc, .slice (some ⟨b, off, none⟩) kn kc]⟩ 36 (0, 0))]])) (Zx (hT := tk) (Hp.le_refl _)) ?_
       all_goals (refine rFa 0 ?_; refine ZR ?_; refine rLd 1 ?_; refine ZO 2 ?_; refine rIa 3 ?_; refine rLd 4 ?_; refine rFa 5 ?_; refine rLd 6 ?_; refine ZO 7 ?_; refine rIa 8 ?_; refine rLd 9 ?_; refine rCm 10 ?_; refine ZH ?_)
       repeat' (first | (refine Zg ?_; first | (refine Ze ?_; refine qQ ?_) | refine Zj ?_) | refine Za ?_ | (refine Zh ?_; refine Zq ?_) | (refine Zi ?_; refine Zr ?_) | intro _)
       refine Zp (j + 1) (⟨hlj, by rw [ht1, ht2, hpre, he]⟩) Zm Zm rfl tk inferInstance (by first | omega | (dsimp only; omega))
      ·have hd : decide (x = y) = false := decide_eq_false he
       rw [decide_eq_false (fun e => he (hf e.2.2))]
       repeat' (first | (refine Zg ?_; first | (refine Ze ?_; refine qQ ?_) | refine Zj ?_) | refine Za ?_ | (refine Zh ?_; refine Zq ?_) | (refine Zi ?_; refine Zr ?_) | intro _)
       refine ZD (Zo _ _ ([[(b2, .cells ⟨[.int .i64 kind, .slice ra' k rc', .slice (some ⟨b', off', none⟩) kn kc']⟩ 36 (0, 0))], [(b1, .cells ⟨[.int .i64 kind, .slice ra k rc, .slice (some ⟨b, off, none⟩) kn kc]⟩ 36 (0, 0))]])) (Zx (hT := tk) (Hp.le_refl _)) ?_
       all_goals (refine rFa 0 ?_; refine ZR ?_; refine rLd 1 ?_; refine ZO 2 ?_; refine rIa 3 ?_; refine rLd 4 ?_; refine rFa 5 ?_; refine rLd 6 ?_; refine ZO 7 ?_; refine rIa 8 ?_; refine rLd 9 ?_; refine rCm 10 ?_; refine ZH ?_)
       repeat' (first | (refine Zg ?_; first | (refine Ze ?_; refine qQ ?_) | refine Zj ?_) | refine Za ?_ | (refine Zh ?_; refine Zq ?_) | (refine Zi ?_; refine Zr ?_) | intro _)
       exact qE ⟨rfl, rfl, rfl⟩
     ·have hj2 : j = kn := by omega
      subst hj2
      rw [List.take_of_length_le (by omega), List.take_of_length_le (by omega)] at hpre
      subst hpre
      rw [decide_eq_true ⟨trivial, trivial, rfl⟩]
      repeat' (first | (refine Zg ?_; first | (refine Ze ?_; refine qQ ?_) | refine Zj ?_) | refine Za ?_ | (refine Zh ?_; refine Zq ?_) | (refine Zi ?_; refine Zr ?_) | intro _)
      exact qE ⟨rfl, rfl, rfl⟩
   ·rw [decide_eq_false (fun e => h3 (by rw [← hkn, ← hkn', e.2.2]))]
    repeat' (first | (refine Zg ?_; first | (refine Ze ?_; refine qQ ?_) | refine Zj ?_) | refine Za ?_ | (refine Zh ?_; refine Zq ?_) | (refine Zi ?_; refine Zr ?_) | intro _)
    exact qE ⟨rfl, rfl, rfl⟩
  ·rw [decide_eq_false (fun e => h2 (by rw [← hrn, ← hrn', e.2.1]))]
   repeat' (first | (refine Zg ?_; first | (refine Ze ?_; refine qQ ?_) | refine Zj ?_) | refine Za ?_ | (refine Zh ?_; refine Zq ?_) | (refine Zi ?_; refine Zr ?_) | intro _)
   exact qE ⟨rfl, rfl, rfl⟩
 ·rw [decide_eq_false (fun e => h1 e.1)]
  repeat' (first | (refine Zg ?_; first | (refine Ze ?_; refine qQ ?_) | refine Zj ?_) | refine Za ?_ | (refine Zh ?_; refine Zq ?_) | (refine Zi ?_; refine Zr ?_) | intro _)
  exact qE ⟨rfl, rfl, rfl⟩
abbrev bAt (l : List UInt8) (i : Nat) : Nat := (l.getD i 0).toNat
def rowW (l : List UInt8) : Row := ⟨(bAt l 0 : Nat), bAt l 1 * 256 + bAt l 2, i64N (ZP ((l.drop 3).take 8)), (l.drop 12).take (bAt l 11)⟩
def Ww (l : List UInt8) : Prop := 12 ≤ l.length ∧ bAt l 0 < 3 ∧ bAt l 11 ≤ 8 ∧ 12 + bAt l 11 ≤ l.length
theorem numR_go {k : Nat} {l : List UInt8} (h : k ≤ l.length) : Yg k l 0 = (ZP (l.take k), l.drop k, 0) := by
 unfold Yg
 rw [if_neg (by simp), if_neg (by omega)]
theorem numR_no {k : Nat} {l : List UInt8} (h : l.length < k) : Yg k l 0 = (0, l, 7) := by
 unfold Yg
 rw [if_neg (by simp), if_pos h]
theorem numR_st (k : Nat) (l : List UInt8) : Yg k l 7 = (0, l, 7) := by
 unfold Yg
 rw [if_pos (by decide)]
theorem unbe_at1 (l : List UInt8) (k : Nat) (h : k < l.length) : ZP ((l.drop k).take 1) = bAt l k := by
 rw [List.drop_eq_getElem_cons h, List.take_succ_cons, List.take_zero, unbe_one]
 simp [bAt, List.getD_eq_getElem?_getD, h]
theorem unbe_at2 (l : List UInt8) (k : Nat) (h : k + 1 < l.length) : ZP ((l.drop k).take 2) = bAt l k * 256 + bAt l (k + 1) := by
 rw [List.drop_eq_getElem_cons (show k < l.length by omega), List.drop_eq_getElem_cons h, List.take_succ_cons, List.take_succ_cons, List.take_zero]
 simp [ZP, bAt, List.getD_eq_getElem?_getD, h, show k < l.length by omega]
theorem takeRow_W (l : List UInt8) : ((Wa l).2.2 = 0 ↔ Ww l) ∧ (Ww l → Wa l = (rowW l, ((12 + bAt l 11 : Nat) : Int), 0)) := by
 unfold Wa XY Ww
 by_cases h1 : l.length < 1
 ·rw [numR_no h1]
  simp [Xi, Wk, show ¬ 12 ≤ l.length by omega]
 ·have e1 := unbe_at1 l 0 (by omega)
  rw [List.drop_zero] at e1
  rw [numR_go (by omega), e1]
  by_cases ht : bAt l 0 < 3
  ·have hti : ((bAt l 0 : Nat) : Int) < 3 := by omega
   simp only [Xi, decide_eq_true hti]
   by_cases h3 : l.length < 3
   ·simp only [numR_no (show (l.drop 1).length < 2 by simp; omega), numR_st]
    simp [Wk, show ¬ 12 ≤ l.length by omega]
   ·simp only [numR_go (show 2 ≤ (l.drop 1).length by simp; omega), List.drop_drop]
    by_cases h11 : l.length < 11
    ·simp only [show 1 + 2 = 3 from rfl, show 2 + 1 = 3 from rfl, numR_no (show (l.drop 3).length < 8 by simp; omega), numR_st]
     simp [Wk, show ¬ 12 ≤ l.length by omega]
    ·simp only [show 1 + 2 = 3 from rfl, show 2 + 1 = 3 from rfl, numR_go (show 8 ≤ (l.drop 3).length by simp; omega), List.drop_drop]
     by_cases h12 : l.length < 12
     ·simp only [show 3 + 8 = 11 from rfl, show 8 + 3 = 11 from rfl, numR_no (show (l.drop 11).length < 1 by simp; omega)]
      simp [Wk, show ¬ 12 ≤ l.length by omega]
     ·simp only [show 3 + 8 = 11 from rfl, show 8 + 3 = 11 from rfl, numR_go (show 1 ≤ (l.drop 11).length by simp; omega), List.drop_drop, unbe_at1 l 11 (by omega), unbe_at2 l 1 (by omega)]
      by_cases hn : bAt l 11 ≤ 8
      ·have hni : ((bAt l 11 : Nat) : Int) ≤ 8 := by omega
       by_cases hl : 12 + bAt l 11 ≤ l.length
       ·have hlen : (l.drop 12).length = l.length - 12 := by simp
        simp [Wk, takenN, rawR, hn, hni, hl, ht, rowW, show 12 ≤ l.length by omega, show ¬ l.length - 12 < bAt l 11 by omega]
        omega
       ·simp [Wk, rawR, hn, hni, hl, show l.length - 12 < bAt l 11 by omega]
      ·have hni : ¬ ((bAt l 11 : Nat) : Int) ≤ 8 := by omega
       simp [Wk, hn, hni]
  ·have hti : ¬ ((bAt l 0 : Nat) : Int) < 3 := by omega
   simp [Xi, Wk, hti, ht]
theorem bAt_get (l : List UInt8) (i : Nat) (h : i < l.length) : (l[i]'h).toNat = bAt l i := by simp [bAt, List.getD_eq_getElem?_getD, h]
theorem takenD_spec (ρ : Hp) (a : Option Addr) (n c : Nat) (l : List UInt8) (h : SIn ρ Zs a n l) (h3 : 3 ≤ n) : Spec Tryz.prog 87 [.slice a n c] ρ []
  (fun v ρ' L' => v = .agg ⟨[.int .i64 (bAt l 0 : Nat), .int .u16 (bAt l 1 * 256 + bAt l 2 : Nat)]⟩ ∧ ρ' = ρ ∧ L' = []) := by
 have hl := h.len
 obtain ⟨b, off, C, T, fr, rfl, hb, hc0⟩ := h.get (show 0 < l.length by omega)
 obtain ⟨b', off', C', T', fr', e', hb', hc1⟩ := h.get (show 1 < l.length by omega)
 cases e'
 cases hb.symm.trans hb'
 obtain ⟨b', off', C', T', fr', e', hb'', hc2⟩ := h.get (show 2 < l.length by omega)
 cases e'
 cases hb.symm.trans hb''
 have g0 := bAt_get l 0 (by omega)
 have g1 := bAt_get l 1 (by omega)
 have g2 := bAt_get l 2 (by omega)
 rw [← g0, ← g1, ← g2]
 generalize l[0]'(by omega) = y0 at *
 generalize l[1]'(by omega) = y1 at *
 generalize l[2]'(by omega) = y2 at *
 rw [show (((y1.toNat * 256 + y2.toNat : Nat)) : Int) = (y1.toNat : Int) * 256 + (y2.toNat : Int) by omega]
 have t0 := y0.toNat_lt
 have t1 := y1.toNat_lt
 have t2 := y2.toNat_lt
 refine Zf Tryz.func87 rfl rfl rfl fun u R => ?_
 simp only [Zv, List.cons_append, List.nil_append]
 repeat' (first | (refine iBu ?_; refine Yb (Zy rfl) rfl rfl ?_) | (refine Zg ?_; first | (refine Ze ?_; refine qQ ?_) | refine Zj ?_) | refine Za ?_ | (refine Zh ?_; refine Zq ?_) | (refine Zi ?_; refine Zr ?_) | intro _)
 rename_i b2
 refine ZD (Zo _ _ ([])) (Zx (hT := tk) (Hp.le_refl _)) ?_
 all_goals (refine ZO 0 ?_; refine rIa 1 ?_; refine rLd 2 ?_; refine rCv 3 ?_; refine ZO 4 ?_; refine rIa 5 ?_; refine rLd 6 ?_; refine rCv 7 ?_; refine rSh 8 ?_; refine ZO 9 ?_; refine rIa 10 ?_; refine rLd 11 ?_; refine rCv 12 ?_; refine rAd 13 ?_)
 all_goals refine rBu 14 ?_ (y := fun _ _ => Zy rfl)
 all_goals (refine Zn (i := 15) ?_; ((try refine Zk ?_); (first | (refine Zj ?_; try intro _)) <;> ((try simp only [kM, kN, kO]); refine Za ?_; refine Zl ?_)))
 all_goals refine ZH ?_
 all_goals (repeat' (first | (refine iBu ?_; refine Yb (Zy rfl) rfl rfl ?_) | (refine Zg ?_; first | (refine Ze ?_; refine qQ ?_) | refine Zj ?_) | refine Za ?_ | (refine Zh ?_; refine Zq ?_) | (refine Zi ?_; refine Zr ?_) | intro _))
 all_goals exact qE (L' := []) ⟨rfl, rfl, rfl⟩
theorem wrap_mod (n : Int) : IntKind.i64.wrap n % 18446744073709551616 = n % 18446744073709551616 := by
 simp only [IntKind.wrap, IntKind.signed, IntKind.bits, Bool.true_and]
 split <;> omega
theorem wrap_cg {n m : Int} (h : n % 18446744073709551616 = m % 18446744073709551616) : IntKind.i64.wrap n = IntKind.i64.wrap m := by
 have h' : n % (2 ^ IntKind.i64.bits : Int) = m % (2 ^ IntKind.i64.bits : Int) := h
 unfold IntKind.wrap
 simp only [h']
theorem i64_step (m c : Nat) : IntKind.i64.wrap (IntKind.i64.wrap (i64N m * 2 ^ 8) + (c : Int)) = i64N (m * 256 + c) := by
 have h1 := wrap_mod (i64N m * 2 ^ 8)
 have h2 : i64N m % 18446744073709551616 = _ := wrap_mod (m : Int)
 refine wrap_cg ?_
 generalize IntKind.i64.wrap (i64N m * 2 ^ 8) = x at *
 generalize i64N m = y at *
 omega
theorem takeRowD_spec (ρ : Hp) (a : Option Addr) (n c : Nat) (l : List UInt8) (h : SIn ρ Zs a n l) (hc : n ≤ c) (hb : n ≤ 1000000) : Spec Tryz.prog 86 [.slice a n c] ρ []
  (fun v ρ' L' => (∃ x k e, v = .tuple ⟨[.agg ⟨Yp x⟩, .int .i64 k, .int .i64 e]⟩ ∧ (e = 0 ↔ Ww l) ∧ (Ww l → x = rowW l ∧ k = ((12 + bAt l 11 : Nat) : Int))) ∧ ρ' = ρ ∧ L' = []) := by
 have hl := h.len
 refine Zf Tryz.func86 rfl rfl rfl fun u R => ?_
 simp only [Zv, List.cons_append, List.nil_append]
 by_cases h1 : n < 1
 ·have hno : ¬ Ww l := fun e => by have := e.1; omega
  repeat' (first | (refine iBu ?_; refine Yb (Zy rfl) rfl rfl ?_) | (refine Zg ?_; first | (refine Ze ?_; refine qQ ?_) | refine Zj ?_) | refine Za ?_ | (refine Zh ?_; refine Zq ?_) | (refine Zi ?_; refine Zr ?_) | intro _)
  exact qE (L' := []) ⟨⟨⟨0, 0, 0, []⟩, 0, 7, rfl, ⟨fun e => absurd e (by decide), fun e => absurd e hno⟩, fun e => absurd e hno⟩, rfl, rfl⟩
 obtain ⟨b, off, C, T, fr, rfl, hbb, hc0⟩ := h.get (show 0 < l.length by omega)
 have g0 := bAt_get l 0 (by omega)
 generalize l[0]'(by omega) = y0 at *
 have t0 := y0.toNat_lt
 by_cases ht : y0.toNat < 3
 ·have htd : decide (0 ≤ (y0.toNat : Int) ∧ (y0.toNat : Int) < 3) = true := decide_eq_true (by omega)
  by_cases h12 : n < 12
  ·have hno : ¬ Ww l := fun e => by have := e.1; omega
   repeat' (first | (refine Zd (.func 54) ?_; refine qC rfl rfl (YE _ _) ?_; rintro v ρ' L' hle ⟨rfl, rfl, rfl⟩ <;> (try simp only [kM, kN, kO, htd])) | (refine iBu ?_; refine Yb (Zy rfl) rfl rfl ?_) | (refine Zg ?_; first | (refine Ze ?_; refine qQ ?_) | refine Zj ?_) | refine Za ?_ | (refine Zh ?_; refine Zq ?_) | (refine Zi ?_; refine Zr ?_) | intro _)
   exact qE (L' := []) ⟨⟨⟨0, 0, 0, []⟩, 0, 7, rfl, ⟨fun e => absurd e (by decide), fun e => absurd e hno⟩, fun e => absurd e hno⟩, rfl, rfl⟩
  obtain ⟨b', off', C', T', fr', e', hb', hc11⟩ := h.get (show 11 < l.length by omega)
  cases e'
  cases hbb.symm.trans hb'
  have g11 := bAt_get l 11 (by omega)
  generalize l[11]'(by omega) = y11 at *
  have t11 := y11.toNat_lt
  by_cases hn : y11.toNat ≤ 8
  ·by_cases hln : 12 + y11.toNat ≤ n
   ·have hok : Ww l := ⟨by omega, by omega, by omega, by omega⟩
    have hT := takenD_spec ρ (some ⟨b, off, none⟩) n c l h (by omega)
    repeat' (first | (refine Zd (.func 54) ?_; refine qC rfl rfl (YE _ _) ?_; rintro v ρ' L' hle ⟨rfl, rfl, rfl⟩ <;> (try simp only [kM, kN, kO, htd])) | (refine Zd (.func 87) ?_; refine qC rfl rfl (hT) ?_; rintro v ρ' L' hle ⟨rfl, rfl, rfl⟩ <;> (try simp only [kM, kN, kO])) | (refine iBu ?_; refine Yb (Zy rfl) rfl rfl ?_) | (refine Zg ?_; first | (refine Ze ?_; refine qQ ?_) | refine Zj ?_) | refine Za ?_ | (refine Zh ?_; refine Zq ?_) | (refine Zi ?_; refine Zr ?_) | intro _)
    rename_i b2 _ b5
    have hsub := h.sub (lo' := 3) (hi' := 11) (by omega) (by omega) (cap := c) hc
    have hsub2 := h.sub (lo' := 12) (hi' := 12 + y11.toNat) (by omega) hln (cap := c) hc
    simp only [show Int.toNat 3 = 3 from rfl, show Int.toNat 11 = 11 from rfl] at hsub ⊢
    generalize (if c = 3 then some (⟨b, off, none⟩ : Addr) else Option.map (fun x : Addr => x.add (3 * 1)) (some ⟨b, off, none⟩)) = pp at *
    obtain ⟨D, hD⟩ : ∃ D, (l.drop 3).take 8 = D := ⟨_, rfl⟩
    have hDl : D.length = 8 := by rw [← hD]; simp; omega
    have hsub : SIn ρ' Zs pp 8 D := hD ▸ hsub
    refine ZB [(0, _), (2, _), (3, _), (4, _), (5, _), (47, _), (48, _)] (fun (ζ : (Nat)) => [(49, .int .i64 ζ)]) (fun (ζ : (Nat)) => ρ') (fun (ζ : (Nat)) => [[(b5, .cells ⟨[.int .i64 (bAt l 0 : Nat), .int .u16 (bAt l 1 * 256 + bAt l 2 : Nat), .int .i64 (i64N (ZP (D.take ζ))), strV []]⟩ 65 (0, 0))], [(b2, .cells ⟨[.int .i64 0, .int .u16 0, .int .i64 0, strV []]⟩ 65 (0, 0))]]) (fun (ζ : (Nat)) => ζ ≤ 8) (fun (ζ : (Nat)) => 8 - ζ) (0) (Nat.zero_le _) Zm Zm rfl tk ?_
    rintro k hI
    try simp only [List.cons_append, List.nil_append, List.append_assoc, List.append_eq] at hI ⊢
    try dsimp only at hI ⊢
    by_cases hlt : k < 8
    ·obtain ⟨bd, od, Cd, Td, fd, ed, hbd, hcd⟩ := hsub.get (show k < D.length by omega)
     have ht := List.take_succ_eq_append_getElem (show k < D.length by omega)
     have hst := i64_step (ZP (D.take k)) (D[k]'(by omega)).toNat
     rw [← unbe_snoc, ← ht] at hst
     generalize D[k]'(by omega) = z at *
     have hzt := z.toNat_lt
     rw [ed]
     repeat' (first | (refine iBu ?_; refine Yb (Zy rfl) rfl rfl ?_) | (refine Zg ?_; first | (refine Ze ?_; refine qQ ?_) | refine Zj ?_) | refine Za ?_ | (refine Zh ?_; refine Zq ?_) | (refine Zi ?_; refine Zr ?_) | intro _)
     rw [hst, ← ed]
     refine Zp (k + 1) (hlt) Zm Zm rfl tk inferInstance (by first | omega | (dsimp only; omega))
    ·have hk8 : D.take k = D := List.take_of_length_le (by omega)
     rw [hk8]
     repeat' (first | (refine iBu ?_; refine Yb (Zy rfl) rfl rfl ?_) | (refine Zg ?_; first | (refine Ze ?_; refine qQ ?_) | refine Zj ?_) | refine Za ?_ | (refine Zh ?_; refine Zq ?_) | (refine Zi ?_; refine Zr ?_) | intro _)
     exact qE (L' := []) ⟨⟨⟨(bAt l 0 : Nat), bAt l 1 * 256 + bAt l 2, i64N (ZP D), (l.drop 12).take (12 + y11.toNat - 12)⟩, _, 0, rfl, ⟨fun _ => hok, fun _ => rfl⟩, fun _ => ⟨by unfold rowW; rw [hD, ← g11, show 12 + y11.toNat - 12 = y11.toNat by omega], by rw [← g11]⟩⟩, rfl, rfl⟩
   ·have hno : ¬ Ww l := fun e => by have := e.2.2.2; omega
    repeat' (first | (refine Zd (.func 54) ?_; refine qC rfl rfl (YE _ _) ?_; rintro v ρ' L' hle ⟨rfl, rfl, rfl⟩ <;> (try simp only [kM, kN, kO, htd])) | (refine iBu ?_; refine Yb (Zy rfl) rfl rfl ?_) | (refine Zg ?_; first | (refine Ze ?_; refine qQ ?_) | refine Zj ?_) | refine Za ?_ | (refine Zh ?_; refine Zq ?_) | (refine Zi ?_; refine Zr ?_) | intro _)
    exact qE (L' := []) ⟨⟨⟨0, 0, 0, []⟩, 0, 7, rfl, ⟨fun e => absurd e (by decide), fun e => absurd e hno⟩, fun e => absurd e hno⟩, rfl, rfl⟩
  ·have hno : ¬ Ww l := fun e => by have := e.2.2.1; omega
   repeat' (first | (refine Zd (.func 54) ?_; refine qC rfl rfl (YE _ _) ?_; rintro v ρ' L' hle ⟨rfl, rfl, rfl⟩ <;> (try simp only [kM, kN, kO, htd])) | (refine iBu ?_; refine Yb (Zy rfl) rfl rfl ?_) | (refine Zg ?_; first | (refine Ze ?_; refine qQ ?_) | refine Zj ?_) | refine Za ?_ | (refine Zh ?_; refine Zq ?_) | (refine Zi ?_; refine Zr ?_) | intro _)
   exact qE (L' := []) ⟨⟨⟨0, 0, 0, []⟩, 0, 161, rfl, ⟨fun e => absurd e (by decide), fun e => absurd e hno⟩, fun e => absurd e hno⟩, rfl, rfl⟩
 ·have hno : ¬ Ww l := fun e => by have := e.2.1; omega
  have htd : decide (0 ≤ (y0.toNat : Int) ∧ (y0.toNat : Int) < 3) = false := decide_eq_false (by omega)
  repeat' (first | (refine Zd (.func 54) ?_; refine qC rfl rfl (YE _ _) ?_; rintro v ρ' L' hle ⟨rfl, rfl, rfl⟩ <;> (try simp only [kM, kN, kO, htd])) | (refine iBu ?_; refine Yb (Zy rfl) rfl rfl ?_) | (refine Zg ?_; first | (refine Ze ?_; refine qQ ?_) | refine Zj ?_) | refine Za ?_ | (refine Zh ?_; refine Zq ?_) | (refine Zi ?_; refine Zr ?_) | intro _)
  exact qE (L' := []) ⟨⟨⟨0, 0, 0, []⟩, 0, 161, rfl, ⟨fun e => absurd e (by decide), fun e => absurd e hno⟩, fun e => absurd e hno⟩, rfl, rfl⟩
theorem preB_of {α : Type} (f : α → List UInt8) (P : α → Prop) (hu : ∀ a b x y, P a → P b → f a ++ x = f b ++ y → a = b) : ∀ (RS cs : List α) (x y : List UInt8), (∀ r ∈ RS, P r) → (∀ r ∈ cs, P r) → RS.length ≤ cs.length → RS.flatMap f ++ x = cs.flatMap f ++ y → RS = cs.take RS.length ∧ x = (cs.drop RS.length).flatMap f ++ y
 | [], cs, x, y, _, _, _, e => ⟨rfl, by simpa using e⟩
 | r :: RS, [], _, _, _, _, hl, _ => absurd hl (by simp)
 | r :: RS, c :: cs, x, y, h1, h2, hl, e => by
  rw [List.flatMap_cons, List.flatMap_cons, List.append_assoc, List.append_assoc] at e
  have hrc := hu r c _ _ (h1 r (by simp)) (h2 c (by simp)) e
  subst hrc
  obtain ⟨g1, g2⟩ := preB_of f P hu RS cs x y (fun z hz => h1 z (by simp [hz])) (fun z hz => h2 z (by simp [hz])) (by simpa using hl) (List.append_cancel_left e)
  refine ⟨?_, by simpa using g2⟩
  rw [List.length_cons, List.take_succ_cons, ← g1]
theorem row_one (a b : Row) (x y : List UInt8) (ha : YI a = true ∧ XC a) (hb : YI b = true ∧ XC b) (e : ZL a ++ x = ZL b ++ y) : a = b := by
 have h1 := takeRow_back ha.1 ha.2 x
 rw [e, takeRow_back hb.1 hb.2 y] at h1
 exact (congrArg Prod.fst h1).symm
theorem rowW_ok {l : List UInt8} (h : Ww l) : YI (rowW l) = true ∧ XC (rowW l) ∧ l = ZL (rowW l) ++ l.drop (12 + bAt l 11) ∧ (ZL (rowW l)).length = 12 + bAt l 11 := by
 obtain ⟨h1, h2⟩ := takeRow_W l
 obtain ⟨n, e1, e2, e3, e4, e5⟩ := takeRow_ok (h1.2 h)
 rw [h2 h] at e1 e3 e4 e5
 dsimp only at e1 e3 e4 e5
 have hn : n = 12 + bAt l 11 := by omega
 subst hn
 refine ⟨e3, e5, ?_, ?_⟩
 ·rw [e4, List.take_append_drop]
 ·rw [e4, List.length_take]; omega
theorem rowB_W {r : Row} (h : YI r = true) (hf : XC r) (rest : List UInt8) : Ww (ZL r ++ rest) := (takeRow_W _).1.1 (by rw [takeRow_back h hf rest])
theorem tB_one {t t' : Int} (h : 0 ≤ t ∧ t < 256) (h' : 0 ≤ t' ∧ t' < 256) (e : tB t = tB t') : t = t' := by
 have := congrArg UInt8.toNat e
 simp only [tB, UInt8.toNat_ofNat'] at this
 omega
theorem kid_one (a b : Kid) (x y : List UInt8) (ha : (0 ≤ a.t ∧ a.t < 256) ∧ a.id < 65536 ∧ 0 ≤ a.page ∧ a.page < 256) (hb : (0 ≤ b.t ∧ b.t < 256) ∧ b.id < 65536 ∧ 0 ≤ b.page ∧ b.page < 256) (e : Yj a ++ x = Yj b ++ y) : a = b := by
 obtain ⟨t, i, p⟩ := a
 obtain ⟨t', i', p'⟩ := b
 have hl : (Yj ⟨t, i, p⟩).length = (Yj ⟨t', i', p'⟩).length := by simp [Yj, Xf, ZJ]
 obtain ⟨e1, _⟩ := List.append_inj e hl
 unfold Yj Xf at e1
 dsimp only at e1 ha hb
 simp only [List.cons_append, List.cons.injEq] at e1
 obtain ⟨e2, e3⟩ := e1
 obtain ⟨e4, e5⟩ := List.append_inj e3 (by simp [ZJ])
 have e6 := congrArg ZP e4
 rw [XP, XP] at e6
 have e7 := tB_one ha.1 hb.1 e2
 have e8 := tB_one ha.2.2 hb.2.2 (List.cons.inj e5).1
 subst e7 e8
 have : i = i' := by omega
 subst this
 rfl
theorem takeCont_fw {l : List UInt8} (h : (Zz l).2.2 = 0) : ∃ c rest, l = Yk c ++ rest ∧ ZN c = true ∧ ContFit c ∧ Zz l = (c, (((Yk c).length : Nat) : Int), 0) := by
 obtain ⟨n, e1, e2, e3, e4, e5⟩ := WC h
 refine ⟨(Zz l).1, l.drop n, by rw [e4, List.take_append_drop], e3, e5, ?_⟩
 rw [e4, List.length_take, Nat.min_eq_left e2, ← e1, ← h]
theorem contK {l : List UInt8} (h : (Zz l).2.2 = 0) :
  (∃ rest, l = 0 :: rest ∧ Zz l = (⟨0, [], []⟩, 1, 0))
  ∨ (∃ rs rest, l = 1 :: UInt8.ofNat rs.length :: (rs.flatMap ZL ++ rest) ∧ rs.length ≤ 4 ∧ (∀ r ∈ rs, YI r = true ∧ XC r) ∧ Zz l = (⟨1, rs, []⟩, ((2 + (rs.flatMap ZL).length : Nat) : Int), 0))
  ∨ (∃ ks rest, l = 2 :: UInt8.ofNat ks.length :: (ks.flatMap Yj ++ rest) ∧ ks.length ≤ 4 ∧ (∀ k ∈ ks, (0 ≤ k.t ∧ k.t < 256) ∧ k.id < 65536 ∧ 0 ≤ k.page ∧ k.page < 256) ∧ Zz l = (⟨2, [], ks⟩, ((2 + (ks.flatMap Yj).length : Nat) : Int), 0)) := by
 obtain ⟨c, rest, e1, e2, e3, e4⟩ := takeCont_fw h
 have f := XE e2
 rcases contB_form e2 with ⟨k, rfl, e⟩ | ⟨k, hk, e⟩ | ⟨k, hk, e⟩
 ·refine .inl ⟨rest, ?_, ?_⟩
  ·rw [e1, e]; rfl
  ·rw [e4, e]; rfl
 ·obtain ⟨kind, rows, kids⟩ := c
  dsimp only at k hk e f
  subst k hk
  refine .inr (.inl ⟨rows, rest, ?_, f.rl, fun r hr => ⟨f.row r hr, e3.row r hr⟩, ?_⟩)
  ·rw [e1, e]; rfl
  ·rw [e4, e, List.length_cons, List.length_cons, show (rows.flatMap ZL).length + 1 + 1 = 2 + (rows.flatMap ZL).length by omega]
 ·obtain ⟨kind, rows, kids⟩ := c
  dsimp only at k hk e f
  subst k hk
  refine .inr (.inr ⟨kids, rest, ?_, f.kl, fun r hr => ?_, ?_⟩)
  ·rw [e1, e]; rfl
  ·have g1 := f.kid r hr
   have g2 := (e3.kid r hr).id
   omega
  ·rw [e4, e, List.length_cons, List.length_cons, show (kids.flatMap Yj).length + 1 + 1 = 2 + (kids.flatMap Yj).length by omega]
end Go.Proofs.E
