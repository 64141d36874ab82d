/- The law RingDoes. Part 9 of 17. -/
import Derived.Test.YtaacalchpindlaaO8
namespace Go.Proofs.E
open Go
set_option linter.unusedVariables false
set_option linter.unusedSimpArgs false
set_option linter.unusedSectionVars false
set_option maxRecDepth 4000
set_option maxHeartbeats 1000000
attribute [local irreducible] Yl TL TC TE Spec Xt R1 Hp.le EnvLe TS TR YS Zo
def hOf (x : Hd × Bool) : Hd := if x.2 then x.1 else zHd
theorem read04_spec (ρ : Hp) (s : Blk) (h64 : s.length = 64) :
  Spec Try.prog 69 [bv s] ρ [] (fun v ρ' L' => ρ.le ρ' ∧ (∃ na nn nc, v = .tuple ⟨[.agg ⟨rhV (hOf (Yr s)) na nn nc⟩, .bool (Yr s).2]⟩ ∧ SIn ρ' ZE na nn (hOf (Yr s)).note ∧ nn ≤ nc ∧ nn ≤ 32) ∧ L' = []) := by
 have hpl : (s.map ZE).length = 64 := by simpa using h64
 have hp1 := ZM s
 refine Zd Try.func69 rfl rfl rfl fun u RR => ?_
 simp only [Zw, List.cons_append, List.nil_append]
 repeat' (first | (refine ZV ?_; refine Zy (Zc rfl) rfl rfl ?_) | (refine Zf ?_; first | (refine Ze ?_; refine qQ ?_) | refine Zk ?_) | refine Za ?_ | (refine Zg ?_; refine Zu ?_) | (refine Zh ?_; refine Zv ?_) | intro _)
 rename_i b1 b2
 refine YZ [(b1, .cells ⟨s.map ZE⟩ 48 (0, 0))] (fun ρ3 hle3 hfz => ?_)
 have hbs := hfz _ (List.mem_singleton.2 rfl)
 dsimp only at hbs
 have hld : List.take 64 (List.drop 0 (s.map ZE)) = s.map ZE := by rw [List.drop_zero, List.take_of_length_le (by omega)]
 have hx21 : (s.map ZE)[21]? = some (ZE (s.getD 21 0)) := by
  rw [List.getElem?_map, List.getD_eq_getElem?_getD, List.getElem?_eq_getElem (by omega)]; rfl
 have hn1 := Xh ρ3 (some ⟨b1, 8, none⟩) 4 56 _ (Yy hbs 8 4 (by omega)) (by omega)
 have hn2 := Xh ρ3 (some ⟨b1, 12, none⟩) 2 52 _ (Yy hbs 12 2 (by omega)) (by omega)
 have hn3 := Xh ρ3 (some ⟨b1, 14, none⟩) 5 50 _ (Yy hbs 14 5 (by omega)) (by omega)
 have hn4 := Xh ρ3 (some ⟨b1, 19, none⟩) 2 45 _ (Yy hbs 19 2 (by omega)) (by omega)
 have hl1 := Xl ((s.drop 8).take 4)
 have hl2 := Xl ((s.drop 12).take 2)
 have hl3 := Xl ((s.drop 14).take 5)
 have hl4 := Xl ((s.drop 19).take 2)
 rw [show ((s.drop 8).take 4).length = 4 by simp; omega] at hl1
 rw [show ((s.drop 12).take 2).length = 2 by simp; omega] at hl2
 rw [show ((s.drop 14).take 5).length = 5 by simp; omega] at hl3
 rw [show ((s.drop 19).take 2).length = 2 by simp; omega] at hl4
 have hh : Xu s = ⟨YJ ((s.drop 8).take 4), YJ ((s.drop 14).take 5), YJ ((s.drop 12).take 2), YJ ((s.drop 19).take 2), (s.drop 22).take (s.getD 21 0).toNat⟩ := rfl
 have hnb : (s.getD 21 0).toNat < 256 := (s.getD 21 0).toNat_lt
 have hrd : Yr s = if (Xu s).Right (s.getD 21 0).toNat then (Xu s, decide (Yk (Xu s) = s)) else (zHd, false) := rfl
 generalize Yr s = RB at *
 simp only [ZE] at hx21
 generalize s.getD 21 0 = nb8 at *
 rw [hh] at hrd
 generalize hT : YJ ((s.drop 8).take 4) = T at *
 generalize hS : YJ ((s.drop 12).take 2) = S at *
 generalize hF : YJ ((s.drop 14).take 5) = F at *
 generalize hP : YJ ((s.drop 19).take 2) = P at *
 generalize hN : nb8.toNat = N at *
 have hrd1 : (1 ≤ T ∧ T ≤ 1073741824 ∧ 4 ≤ S ∧ S ≤ 1000 ∧ 1 ≤ F ∧ F ≤ 1099511627776 ∧ P < S ∧ N ≤ 32) → RB = (⟨T, F, S, P, (s.drop 22).take N⟩, decide (Yk ⟨T, F, S, P, (s.drop 22).take N⟩ = s)) := fun h => by rw [hrd]; exact if_pos h
 have hrd2 : ¬ (1 ≤ T ∧ T ≤ 1073741824 ∧ 4 ≤ S ∧ S ≤ 1000 ∧ 1 ≤ F ∧ F ≤ 1099511627776 ∧ P < S ∧ N ≤ 32) → RB = (zHd, false) := fun h => by rw [hrd]; exact if_neg h
 clear hrd hh
 obtain ⟨Ti, hTi⟩ : ∃ z : Int, z = T := ⟨_, rfl⟩
 obtain ⟨Fi, hFi⟩ : ∃ z : Int, z = F := ⟨_, rfl⟩
 rw [← hTi] at hn1
 rw [← hFi] at hn3
 refine ZA (Zo _ _ ([])) (Zn (hT := tk) (Hp.le_refl _)) ?_
 all_goals (refine rSl 0 ?_; refine rSl 2 ?_; refine rSl 5 ?_; refine rSl 7 ?_)
 all_goals (refine YV (i := 1) (j := 11) ?_ ?_ <;> ((try refine Zl ?_); (first | (refine Zb (.func 82) ?_; refine qC rfl rfl (hn1) ?_; rintro v ρ' L' hle ⟨rfl, rfl, rfl⟩ <;> (try simp only [kM, kN, kO])) | (refine Zb (.func 82) ?_; refine qC rfl rfl (hn2) ?_; rintro v ρ' L' hle ⟨rfl, rfl, rfl⟩ <;> (try simp only [kM, kN, kO])) | (refine Zb (.func 82) ?_; refine qC rfl rfl (hn3) ?_; rintro v ρ' L' hle ⟨rfl, rfl, rfl⟩ <;> (try simp only [kM, kN, kO])) | (refine Zb (.func 82) ?_; refine qC rfl rfl (hn4) ?_; rintro v ρ' L' hle ⟨rfl, rfl, rfl⟩ <;> (try simp only [kM, kN, kO])) | (refine Zk ?_; try intro _)) <;> ((try simp only [kM, kN, kO]); refine Za ?_; refine Zm ?_)))
 all_goals (first | (refine YV (i := 3) (j := 11) ?_ ?_ <;> ((try refine Zl ?_); (first | (refine Zb (.func 82) ?_; refine qC rfl rfl (hn1) ?_; rintro v ρ' L' hle ⟨rfl, rfl, rfl⟩ <;> (try simp only [kM, kN, kO])) | (refine Zb (.func 82) ?_; refine qC rfl rfl (hn2) ?_; rintro v ρ' L' hle ⟨rfl, rfl, rfl⟩ <;> (try simp only [kM, kN, kO])) | (refine Zb (.func 82) ?_; refine qC rfl rfl (hn3) ?_; rintro v ρ' L' hle ⟨rfl, rfl, rfl⟩ <;> (try simp only [kM, kN, kO])) | (refine Zb (.func 82) ?_; refine qC rfl rfl (hn4) ?_; rintro v ρ' L' hle ⟨rfl, rfl, rfl⟩ <;> (try simp only [kM, kN, kO])) | (refine Zk ?_; try intro _)) <;> ((try simp only [kM, kN, kO]); refine Za ?_; refine Zm ?_))) | (refine Zp (i := 1) ?_; ((try refine Zl ?_); (first | (refine Zb (.func 82) ?_; refine qC rfl rfl (hn1) ?_; rintro v ρ' L' hle ⟨rfl, rfl, rfl⟩ <;> (try simp only [kM, kN, kO])) | (refine Zb (.func 82) ?_; refine qC rfl rfl (hn2) ?_; rintro v ρ' L' hle ⟨rfl, rfl, rfl⟩ <;> (try simp only [kM, kN, kO])) | (refine Zb (.func 82) ?_; refine qC rfl rfl (hn3) ?_; rintro v ρ' L' hle ⟨rfl, rfl, rfl⟩ <;> (try simp only [kM, kN, kO])) | (refine Zb (.func 82) ?_; refine qC rfl rfl (hn4) ?_; rintro v ρ' L' hle ⟨rfl, rfl, rfl⟩ <;> (try simp only [kM, kN, kO])) | (refine Zk ?_; try intro _)) <;> ((try simp only [kM, kN, kO]); refine Za ?_; refine Zm ?_))))
 all_goals (first | refine rCv 4 ?_ | (refine Zp (i := 3) ?_; ((try refine Zl ?_); (first | (refine Zb (.func 82) ?_; refine qC rfl rfl (hn1) ?_; rintro v ρ' L' hle ⟨rfl, rfl, rfl⟩ <;> (try simp only [kM, kN, kO])) | (refine Zb (.func 82) ?_; refine qC rfl rfl (hn2) ?_; rintro v ρ' L' hle ⟨rfl, rfl, rfl⟩ <;> (try simp only [kM, kN, kO])) | (refine Zb (.func 82) ?_; refine qC rfl rfl (hn3) ?_; rintro v ρ' L' hle ⟨rfl, rfl, rfl⟩ <;> (try simp only [kM, kN, kO])) | (refine Zb (.func 82) ?_; refine qC rfl rfl (hn4) ?_; rintro v ρ' L' hle ⟨rfl, rfl, rfl⟩ <;> (try simp only [kM, kN, kO])) | (refine Zk ?_; try intro _)) <;> ((try simp only [kM, kN, kO]); refine Za ?_; refine Zm ?_))))
 all_goals (first | refine rCv 4 ?_ | (refine YV (i := 6) (j := 11) ?_ ?_ <;> ((try refine Zl ?_); (first | (refine Zb (.func 82) ?_; refine qC rfl rfl (hn1) ?_; rintro v ρ' L' hle ⟨rfl, rfl, rfl⟩ <;> (try simp only [kM, kN, kO])) | (refine Zb (.func 82) ?_; refine qC rfl rfl (hn2) ?_; rintro v ρ' L' hle ⟨rfl, rfl, rfl⟩ <;> (try simp only [kM, kN, kO])) | (refine Zb (.func 82) ?_; refine qC rfl rfl (hn3) ?_; rintro v ρ' L' hle ⟨rfl, rfl, rfl⟩ <;> (try simp only [kM, kN, kO])) | (refine Zb (.func 82) ?_; refine qC rfl rfl (hn4) ?_; rintro v ρ' L' hle ⟨rfl, rfl, rfl⟩ <;> (try simp only [kM, kN, kO])) | (refine Zk ?_; try intro _)) <;> ((try simp only [kM, kN, kO]); refine Za ?_; refine Zm ?_))))
 all_goals (first | (refine YV (i := 8) (j := 11) ?_ ?_ <;> ((try refine Zl ?_); (first | (refine Zb (.func 82) ?_; refine qC rfl rfl (hn1) ?_; rintro v ρ' L' hle ⟨rfl, rfl, rfl⟩ <;> (try simp only [kM, kN, kO])) | (refine Zb (.func 82) ?_; refine qC rfl rfl (hn2) ?_; rintro v ρ' L' hle ⟨rfl, rfl, rfl⟩ <;> (try simp only [kM, kN, kO])) | (refine Zb (.func 82) ?_; refine qC rfl rfl (hn3) ?_; rintro v ρ' L' hle ⟨rfl, rfl, rfl⟩ <;> (try simp only [kM, kN, kO])) | (refine Zb (.func 82) ?_; refine qC rfl rfl (hn4) ?_; rintro v ρ' L' hle ⟨rfl, rfl, rfl⟩ <;> (try simp only [kM, kN, kO])) | (refine Zk ?_; try intro _)) <;> ((try simp only [kM, kN, kO]); refine Za ?_; refine Zm ?_))) | (refine Zp (i := 6) ?_; ((try refine Zl ?_); (first | (refine Zb (.func 82) ?_; refine qC rfl rfl (hn1) ?_; rintro v ρ' L' hle ⟨rfl, rfl, rfl⟩ <;> (try simp only [kM, kN, kO])) | (refine Zb (.func 82) ?_; refine qC rfl rfl (hn2) ?_; rintro v ρ' L' hle ⟨rfl, rfl, rfl⟩ <;> (try simp only [kM, kN, kO])) | (refine Zb (.func 82) ?_; refine qC rfl rfl (hn3) ?_; rintro v ρ' L' hle ⟨rfl, rfl, rfl⟩ <;> (try simp only [kM, kN, kO])) | (refine Zb (.func 82) ?_; refine qC rfl rfl (hn4) ?_; rintro v ρ' L' hle ⟨rfl, rfl, rfl⟩ <;> (try simp only [kM, kN, kO])) | (refine Zk ?_; try intro _)) <;> ((try simp only [kM, kN, kO]); refine Za ?_; refine Zm ?_))))
 all_goals (first | refine rCv 9 ?_ | (refine Zp (i := 8) ?_; ((try refine Zl ?_); (first | (refine Zb (.func 82) ?_; refine qC rfl rfl (hn1) ?_; rintro v ρ' L' hle ⟨rfl, rfl, rfl⟩ <;> (try simp only [kM, kN, kO])) | (refine Zb (.func 82) ?_; refine qC rfl rfl (hn2) ?_; rintro v ρ' L' hle ⟨rfl, rfl, rfl⟩ <;> (try simp only [kM, kN, kO])) | (refine Zb (.func 82) ?_; refine qC rfl rfl (hn3) ?_; rintro v ρ' L' hle ⟨rfl, rfl, rfl⟩ <;> (try simp only [kM, kN, kO])) | (refine Zb (.func 82) ?_; refine qC rfl rfl (hn4) ?_; rintro v ρ' L' hle ⟨rfl, rfl, rfl⟩ <;> (try simp only [kM, kN, kO])) | (refine Zk ?_; try intro _)) <;> ((try simp only [kM, kN, kO]); refine Za ?_; refine Zm ?_))))
 all_goals (first | refine rCv 9 ?_ | refine rBu 10 ?_ (y := fun _ _ => Zc rfl))
 all_goals (first | refine rBu 10 ?_ (y := fun _ _ => Zc rfl) | (refine Zp (i := 11) ?_; ((try refine Zl ?_); (first | (refine Zk ?_; try intro _)) <;> ((try simp only [kM, kN, kO]); refine Za ?_; refine Zm ?_))))
 all_goals (refine Zp (i := 12) ?_; ((try refine Zl ?_); (first | (refine Zk ?_; try intro _)) <;> ((try simp only [kM, kN, kO]); refine Za ?_; refine Zm ?_)))
 all_goals refine ZH ?_
 all_goals
  by_cases hr : 1 ≤ T ∧ T ≤ 1073741824 ∧ 4 ≤ S ∧ S ≤ 1000 ∧ 1 ≤ F ∧ F ≤ 1099511627776 ∧ P < S ∧ N ≤ 32
  ·replace hrd1 := hrd1 hr
   obtain ⟨r1, r2, r3, r4, r5, r6, r7, r8⟩ := hr
   have q1 : (1 : Int) ≤ Ti := by omega
   have q2 : Ti ≤ 1073741824 := by omega
   have q5 : (1 : Int) ≤ Fi := by omega
   have q6 : Fi ≤ 1099511627776 := by omega
   rename Nat => b5
   have hnn : ((22 : Int) + (N : Int)).toNat - (22 : Int).toNat = N := by omega
   have hnl : ((s.drop 22).take N).length = N := by simp; omega
   repeat' (first | (simp only [hnn]; refine ZR (l := []) (sp := []) (ys := (s.drop 22).take N) (m := N) rfl rfl (OwnS.zero _ 1) (hR := by first | exact YK | exact rem_there' YK | infer_instance) (SIn.srcV (Yy hbs 22 N (by omega))) hnl (by simp; omega) rfl (fun v7 sp7 hown7 => ?_)) | (refine ZV ?_; refine Zy (Zc rfl) rfl rfl ?_) | (refine Zf ?_; first | (refine Ze ?_; refine qQ ?_) | refine Zk ?_) | refine Za ?_ | (refine Zg ?_; refine Zu ?_) | (refine Zh ?_; refine Zv ?_) | intro _)
   simp only [List.nil_append] at hown7 ⊢
   replace hown7 := hown7.re hnl
   obtain ⟨a7, c7, rfl, _⟩ := hown7.slice
   repeat' (first | (refine ZV ?_; refine Zy (Zc rfl) rfl rfl ?_) | (refine Zf ?_; first | (refine Ze ?_; refine qQ ?_) | refine Zk ?_) | refine Za ?_ | (refine Zg ?_; refine Zu ?_) | (refine Zh ?_; refine Zv ?_) | intro _)
   refine YZ (ZO (.slice a7 N c7) (((s.drop 22).take N).map ZE) sp7 5) (h := by infer_instance) (fun ρ5 hl5 hfz5 => ?_)
   obtain ⟨a5, c5, e5, hc5, hs5⟩ := hown7.sIn hfz5
   cases e5
   have hbs5 := YT hl5 hbs
   subst hTi
   subst hFi
   have hbk := block04H_spec ρ5 ⟨T, F, S, P, (s.drop 22).take N⟩ a7 N c7 hs5 (by dsimp only; omega) r6 (by dsimp only; omega) (by dsimp only; omega) (by omega)
   have hlh : (Yk ⟨T, F, S, P, (s.drop 22).take N⟩).length = 64 := Xq _
   have hplh : ((Yk ⟨T, F, S, P, (s.drop 22).take N⟩).map ZE).length = 64 := by simpa using hlh
   by_cases hbe : Yk ⟨T, F, S, P, (s.drop 22).take N⟩ = s
   ·rw [hbe] at hbk
    rw [decide_eq_true hbe] at hrd1
    subst hrd1
    refine ZA (Zo _ _ ([[(b5, .cells ⟨[.int .u64 (T : Int), .int .i64 (S : Int), .int .u64 (F : Int), .int .i64 (P : Int), .slice a7 N c7]⟩ 32 (0, 0))]])) (Zn (hT := tk) (Hp.le_refl _)) ?_
    all_goals (refine ZX 0 ?_; refine ZX 2 ?_)
    all_goals (refine Zp (i := 1) ?_; ((try refine Zl ?_); (first | (refine Zb (.func 65) ?_; refine qC rfl rfl (hbk) ?_; rintro v ρ' L' hle ⟨rfl, hl8, rfl⟩ <;> (try simp only [kM, kN, kO])) | (refine Zk ?_; try intro _)) <;> ((try simp only [kM, kN, kO]); refine Za ?_; refine Zm ?_)))
    all_goals (refine ZN ?_; refine rCm 3 ?_; refine ZH ?_)
    all_goals (repeat' (first | (refine ZV ?_; refine Zy (Zc rfl) rfl rfl ?_) | (refine Zf ?_; first | (refine Ze ?_; refine qQ ?_) | refine Zk ?_) | refine Za ?_ | (refine Zg ?_; refine Zu ?_) | (refine Zh ?_; refine Zv ?_) | intro _))
    all_goals have hfin := Hp.le_trans hle3 (Hp.le_trans hl5 hl8)
    all_goals exact qE (L' := []) (v := .tuple ⟨[.agg ⟨rhV ⟨T, F, S, P, (s.drop 22).take N⟩ a7 N c7⟩, .bool true]⟩) ⟨hfin, ⟨a7, N, c7, rfl, hs5.mono hl8, hc5, by omega⟩, rfl⟩
   ·rw [decide_eq_false hbe] at hrd1
    subst hrd1
    refine ZA (Zo _ _ ([[(b5, .cells ⟨[.int .u64 (T : Int), .int .i64 (S : Int), .int .u64 (F : Int), .int .i64 (P : Int), .slice a7 N c7]⟩ 32 (0, 0))]])) (Zn (hT := tk) (Hp.le_refl _)) ?_
    all_goals (refine ZX 0 ?_; refine ZX 2 ?_)
    all_goals (refine Zp (i := 1) ?_; ((try refine Zl ?_); (first | (refine Zb (.func 65) ?_; refine qC rfl rfl (hbk) ?_; rintro v ρ' L' hle ⟨rfl, hl8, rfl⟩ <;> (try simp only [kM, kN, kO])) | (refine Zk ?_; try intro _)) <;> ((try simp only [kM, kN, kO]); refine Za ?_; refine Zm ?_)))
    all_goals (refine ZN ?_; refine rCm 3 ?_; refine ZH ?_)
    all_goals (repeat' (first | (refine ZV ?_; refine Zy (Zc rfl) rfl rfl ?_) | (refine Zf ?_; first | (refine Ze ?_; refine qQ ?_) | refine Zk ?_) | refine Za ?_ | (refine Zg ?_; refine Zu ?_) | (refine Zh ?_; refine Zv ?_) | intro _))
    all_goals have hfin := Hp.le_trans hle3 (Hp.le_trans hl5 hl8)
    all_goals exact qE (L' := []) (v := .tuple ⟨[.agg ⟨rhV zHd none 0 0⟩, .bool false]⟩) ⟨hfin, ⟨none, 0, 0, rfl, SIn.nil, Nat.le_refl _, Nat.zero_le _⟩, rfl⟩
  ·replace hrd2 := hrd2 hr
   subst hrd2
   by_cases q8 : N ≤ 32
   ·skip
    by_cases q1 : (1 : Int) ≤ Ti
    ·skip
     by_cases q2 : Ti ≤ 1073741824
     ·skip
      by_cases q3 : 4 ≤ S
      ·skip
       by_cases q4 : S ≤ 1000
       ·skip
        by_cases q5 : (1 : Int) ≤ Fi
        ·skip
         by_cases q6 : Fi ≤ 1099511627776
         ·skip
          by_cases q7 : P < S
          ·skip
           exact absurd ⟨by omega, by omega, by omega, by omega, by omega, by omega, by omega, by omega⟩ hr
          ·repeat' (first | (refine ZV ?_; refine Zy (Zc rfl) rfl rfl ?_) | (refine Zf ?_; first | (refine Ze ?_; refine qQ ?_) | refine Zk ?_) | refine Za ?_ | (refine Zg ?_; refine Zu ?_) | (refine Zh ?_; refine Zv ?_) | intro _)
           exact qE (L' := []) (v := .tuple ⟨[.agg ⟨rhV zHd none 0 0⟩, .bool false]⟩) ⟨hle3, ⟨none, 0, 0, rfl, SIn.nil, Nat.le_refl _, Nat.zero_le _⟩, rfl⟩
         ·repeat' (first | (refine ZV ?_; refine Zy (Zc rfl) rfl rfl ?_) | (refine Zf ?_; first | (refine Ze ?_; refine qQ ?_) | refine Zk ?_) | refine Za ?_ | (refine Zg ?_; refine Zu ?_) | (refine Zh ?_; refine Zv ?_) | intro _)
          exact qE (L' := []) (v := .tuple ⟨[.agg ⟨rhV zHd none 0 0⟩, .bool false]⟩) ⟨hle3, ⟨none, 0, 0, rfl, SIn.nil, Nat.le_refl _, Nat.zero_le _⟩, rfl⟩
        ·repeat' (first | (refine ZV ?_; refine Zy (Zc rfl) rfl rfl ?_) | (refine Zf ?_; first | (refine Ze ?_; refine qQ ?_) | refine Zk ?_) | refine Za ?_ | (refine Zg ?_; refine Zu ?_) | (refine Zh ?_; refine Zv ?_) | intro _)
         exact qE (L' := []) (v := .tuple ⟨[.agg ⟨rhV zHd none 0 0⟩, .bool false]⟩) ⟨hle3, ⟨none, 0, 0, rfl, SIn.nil, Nat.le_refl _, Nat.zero_le _⟩, rfl⟩
       ·repeat' (first | (refine ZV ?_; refine Zy (Zc rfl) rfl rfl ?_) | (refine Zf ?_; first | (refine Ze ?_; refine qQ ?_) | refine Zk ?_) | refine Za ?_ | (refine Zg ?_; refine Zu ?_) | (refine Zh ?_; refine Zv ?_) | intro _)
        exact qE (L' := []) (v := .tuple ⟨[.agg ⟨rhV zHd none 0 0⟩, .bool false]⟩) ⟨hle3, ⟨none, 0, 0, rfl, SIn.nil, Nat.le_refl _, Nat.zero_le _⟩, rfl⟩
      ·repeat' (first | (refine ZV ?_; refine Zy (Zc rfl) rfl rfl ?_) | (refine Zf ?_; first | (refine Ze ?_; refine qQ ?_) | refine Zk ?_) | refine Za ?_ | (refine Zg ?_; refine Zu ?_) | (refine Zh ?_; refine Zv ?_) | intro _)
       exact qE (L' := []) (v := .tuple ⟨[.agg ⟨rhV zHd none 0 0⟩, .bool false]⟩) ⟨hle3, ⟨none, 0, 0, rfl, SIn.nil, Nat.le_refl _, Nat.zero_le _⟩, rfl⟩
     ·repeat' (first | (refine ZV ?_; refine Zy (Zc rfl) rfl rfl ?_) | (refine Zf ?_; first | (refine Ze ?_; refine qQ ?_) | refine Zk ?_) | refine Za ?_ | (refine Zg ?_; refine Zu ?_) | (refine Zh ?_; refine Zv ?_) | intro _)
      exact qE (L' := []) (v := .tuple ⟨[.agg ⟨rhV zHd none 0 0⟩, .bool false]⟩) ⟨hle3, ⟨none, 0, 0, rfl, SIn.nil, Nat.le_refl _, Nat.zero_le _⟩, rfl⟩
    ·repeat' (first | (refine ZV ?_; refine Zy (Zc rfl) rfl rfl ?_) | (refine Zf ?_; first | (refine Ze ?_; refine qQ ?_) | refine Zk ?_) | refine Za ?_ | (refine Zg ?_; refine Zu ?_) | (refine Zh ?_; refine Zv ?_) | intro _)
     exact qE (L' := []) (v := .tuple ⟨[.agg ⟨rhV zHd none 0 0⟩, .bool false]⟩) ⟨hle3, ⟨none, 0, 0, rfl, SIn.nil, Nat.le_refl _, Nat.zero_le _⟩, rfl⟩
   ·repeat' (first | (refine ZV ?_; refine Zy (Zc rfl) rfl rfl ?_) | (refine Zf ?_; first | (refine Ze ?_; refine qQ ?_) | refine Zk ?_) | refine Za ?_ | (refine Zg ?_; refine Zu ?_) | (refine Zh ?_; refine Zv ?_) | intro _)
    exact qE (L' := []) (v := .tuple ⟨[.agg ⟨rhV zHd none 0 0⟩, .bool false]⟩) ⟨hle3, ⟨none, 0, 0, rfl, SIn.nil, Nat.le_refl _, Nat.zero_le _⟩, rfl⟩
end Go.Proofs.E
