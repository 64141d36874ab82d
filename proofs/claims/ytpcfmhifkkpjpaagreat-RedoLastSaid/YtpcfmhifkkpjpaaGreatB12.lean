/- Laws of RedoLast. Part 12 of 19. -/
import Derived.Test.YtpcfmhifkkpjpaaGreatB11
namespace Go.Proofs.E
open Go
set_option linter.unusedVariables false
set_option linter.unusedSimpArgs false
set_option linter.unusedSectionVars false
set_option maxRecDepth 4000
set_option maxHeartbeats 1000000
attribute [local irreducible] Yl TL TC TE Spec ZK R1 Hp.le EnvLe TS TR YS Zp TP QP
structure SlD where
 stamp : Nat
 lsn : Nat
 c : Yi
 right : Bool
 most : Nat
def zSl : SlD := ⟨0, 0, ⟨0, [], []⟩, false, 0⟩
abbrev slV (s : SlD) (w : CV) : List Value := [.int .u64 s.stamp, .int .u64 s.lsn, .int .i64 s.c.kind, .slice w.ra w.rn w.rc, .slice w.ka w.kn w.kc, .bool s.right, .int .u64 s.most]
def dataB (c : Yi) : Bs := fitB 84 (UInt8.ofNat (Yz c).length :: Yz c)
theorem dataB_len (c : Yi) : (dataB c).length = 84 := fitB_len _ _
def bodyF (num st lsn : Nat) (c : Yi) (i : Nat) : Bs := UInt8.ofNat num :: UInt8.ofNat i :: (be 8 st ++ (be 8 lsn ++ ((dataB c).drop (42 * i)).take 42))
def ZD (num st lsn : Nat) (c : Yi) (i : Nat) : Blk := bodyF num st lsn c i ++ be 4 (sumB (bodyF num st lsn c i))
theorem bodyF_len (num st lsn : Nat) (c : Yi) {i : Nat} (hi : i < 2) : (bodyF num st lsn c i).length = 60 := by
 simp [bodyF, Zj, dataB_len]; omega
theorem YY (num st lsn : Nat) (c : Yi) {i : Nat} (hi : i < 2) : (ZD num st lsn c i).length = 64 := by
 unfold ZD; rw [List.length_append, bodyF_len num st lsn c hi, Zj]
theorem fit_lay {n : Nat} {l : Bs} (h : l.length ≤ n) : fitB n l = l ++ z8 (n - l.length) := by
 unfold fitB z8
 rw [List.take_append, List.take_of_length_le h, List.take_replicate]
 congr 2; omega
theorem data_lay {l : Bs} (x : UInt8) (h : l.length ≤ 83) : stc (stc ((z8 84).map Zr) (0 + Int.toNat 0 * 1) [Zr x]) 1 ((l.map Zr).take 83) = (fitB 84 (x :: l)).map Zr := by
 have e1 : stc ((z8 84).map Zr) (0 + Int.toNat 0 * 1) [Zr x] = Zr x :: List.replicate 83 (Zr 0) := by simp [stc, z8]
 have e2 : ∀ m, List.drop (1 + m) (Zr x :: List.replicate 83 (Zr 0)) = List.replicate (83 - m) (Zr 0) := fun m => by rw [Nat.add_comm, List.drop_succ_cons, List.drop_replicate]
 rw [e1, fit_lay (by simp; omega), List.take_of_length_le (by simp; omega)]
 unfold stc
 rw [e2]
 simp [z8]
def outF (num st lsn : Nat) (c : Yi) (i : Nat) : Bs := (List.range i).flatMap (ZD num st lsn c) ++ z8 (128 - 64 * i)
theorem outF_one (num st lsn : Nat) (c : Yi) : outF num st lsn c 1 = ZD num st lsn c 0 ++ z8 64 := by simp [outF]
theorem outF_two (num st lsn : Nat) (c : Yi) : outF num st lsn c 2 = ZD num st lsn c 0 ++ ZD num st lsn c 1 := by
 rw [outF, show List.range 2 = [0, 1] from rfl]; simp [z8]
theorem outF_len (num st lsn : Nat) (c : Yi) {i : Nat} (hi : i ≤ 2) : (outF num st lsn c i).length = 128 := by
 rcases (show i = 0 ∨ i = 1 ∨ i = 2 by omega) with rfl | rfl | rfl
 ·simp [outF, z8]
 ·rw [outF_one, List.length_append, YY _ _ _ _ (by omega)]; simp [z8]
 ·rw [outF_two, List.length_append, YY _ _ _ _ (by omega), YY _ _ _ _ (by omega)]
theorem outF_lay (num st lsn : Nat) (c : Yi) {i : Nat} (hi : i < 2) : stc ((outF num st lsn c i).map Zr) (0 + i * 64) (((ZD num st lsn c i).map Zr).take 64) = (outF num st lsn c (i + 1)).map Zr := by
 have hp := YY num st lsn c hi
 rw [List.take_of_length_le (by simp; omega)]
 rcases (show i = 0 ∨ i = 1 by omega) with rfl | rfl
 ·rw [outF_one]
  simp only [outF, List.range_zero, List.flatMap_nil, List.nil_append, stc]
  simp [z8, hp]
 ·rw [outF_one, outF_two]
  have h0 := YY num st lsn c (i := 0) (by omega)
  simp only [stc, List.map_append]
  rw [List.take_left' (by simp [h0]), List.drop_eq_nil_of_le (by simp [h0, hp, z8])]
  simp
theorem parts_spec (ρ : Hp) (num : Nat) (hnum : num < 64) (s : SlD) (w : CV) (h : CIn ρ w s.c.rows s.c.kids) (hok : ZB s.c = true) (hir : ∀ r ∈ s.c.rows, r.id < 65536) (hik : ∀ k ∈ s.c.kids, k.id < 65536) (hst : s.stamp < 18446744073709551616) (hls : s.lsn < 18446744073709551616) :
  Spec Tryz.prog 196 [.int .i64 num, .agg ⟨slV s w⟩] ρ [] (fun v ρ' L' => v = .agg ⟨(ZD num s.stamp s.lsn s.c 0 ++ ZD num s.stamp s.lsn s.c 1).map Zr⟩ ∧ ρ.le ρ' ∧ L' = []) := by
 have hce := contE_spec ρ w s.c h hir hik
 rw [hok] at hce
 simp only [if_true] at hce
 refine Za Tryz.func196 rfl rfl rfl fun u R => ?_
 simp only [Zg, kA]
 repeat' (first | (refine Zb (.func 273) ?_; refine qC rfl rfl (hce) ?_; rintro v ρ' L' hle ⟨hl1, xa, xn, xc, rfl, hxc, hxs, rfl⟩ <;> (try simp only [kA])) | refine zW ?_ | intro _)
 have hxl := hxs.len
 have h82 := WO hok
 have hlb := lenB (n := xn) (by omega)
 have hdl := data_lay (l := Yz s.c) (UInt8.ofNat xn) (by omega)
 rename_i b3 b4
 repeat' (first | (refine Vi rfl rfl (by omega) (by omega) (by omega) (by omega) rfl (fun hbn => ?_); simp only [Nat.mul_one, made_z8]) | refine zW ?_ | intro _)
 simp only [show (Int.toNat 84 = Int.toNat 1) = False from eq_false (by decide), if_false, Option.map_some, Yt, hlb]
 refine tl_copy (ys := (Yz s.c).map Zr) rfl rfl (SIn.srcV hxs) (by simpa using hxl) (ZY _) (by simp [stc, z8]; omega) rfl ?_
 rw [show Int.toNat 84 - Int.toNat 1 = 83 from rfl, show 0 + Int.toNat 1 * 1 = 1 from rfl, show Int.toNat 84 = 84 from rfl, hdl, show fitB 84 (UInt8.ofNat xn :: Yz s.c) = dataB s.c by rw [← hxl]; rfl]
 refine ZA [(hbn, .cells ⟨(dataB s.c).map Zr⟩ 5 (0, 0))] (h := Rem.here) (fun ρ2 hl2 hfz => ?_)
 have hdn := hfz _ (List.mem_singleton.2 rfl)
 have hdt := sIn_l hdn
 rw [dataB_len] at hdt
 repeat' (first | refine zW ?_ | intro _)
 refine Zl [(0, _), (3, _), (4, _), (7, _)] (fun (ζ : (Nat) × (Hp)) => [(26, .int .i64 ζ.1)]) (fun (ζ : (Nat) × (Hp)) => ζ.2) (fun (ζ : (Nat) × (Hp)) => [[(b4, .cells ⟨(outF num s.stamp s.lsn s.c ζ.1).map Zr⟩ 278 (0, 0))], [(b3, .cells ⟨slV s w⟩ 268 (0, 0))]]) (fun (ζ : (Nat) × (Hp)) => ζ.1 ≤ 2 ∧ ρ2.le ζ.2) (fun (ζ : (Nat) × (Hp)) => 2 - ζ.1) ((0, ρ2)) (⟨Nat.zero_le _, Hp.le_refl _⟩) Zc Zc rfl tk ?_
 rintro ⟨i, ρ3⟩ hI
 try simp only [kA, List.append_assoc] at hI ⊢
 try dsimp only at hI ⊢
 obtain ⟨hi, hl3⟩ := hI
 by_cases hlt : i < 2
 ·have hsub := (hdt.mono hl3).sub (lo' := i * 42) (hi' := (i + 1) * 42) (by omega) (by omega) (cap := 84) (by omega)
  have hbn8 := lenB (n := num) (by omega)
  have hbi8 := lenB (n := i) (by omega)
  have hbl := bodyF_len num s.stamp s.lsn s.c hlt
  have hpl := YY num s.stamp s.lsn s.c hlt
  have hol := outF_lay num s.stamp s.lsn s.c hlt
  have hoL := outF_len num s.stamp s.lsn s.c hi
  repeat' (first | refine zW ?_ | intro _)
  refine tpA [0,1,2,3,5,6,8,9] (.e 4 [] (.e 7 [] (.e 10 [] (.f [11] .o)))) ([[(b3, .cells ⟨slV s w⟩ 268 (0, 0))]]) ?_
  repeat' (refine iT ?_; first | refine rA ?_ | ((refine iE ?_; refine rE ?_) <;> ((try refine Zn ?_); (first | (simp only [hbn8, hbi8]; refine Zs rfl rfl rfl rfl (by simp) rfl rfl (fun hb8 => ?_); refine ZA [(hb8, .cells ⟨[UInt8.ofNat num, UInt8.ofNat i].map Zr⟩ 5 (0, 0))] (h := Rem.here) (fun ρ4 hl4 hfz4 => ?_); have hs4 := sIn_l (hfz4 _ (List.mem_singleton.2 rfl))) | (refine Zb (.func 274) ?_; refine qC rfl rfl (put64_spec _ _ _ _ _ hs4 s.stamp hst (by simp)) ?_; rintro v5 ρ5 L5 hle5 ⟨rfl, sp5, hown5, rfl⟩; simp only [kA]; refine ZA _ (h := Rem.here) (fun ρ6 hl6 hfz6 => ?_); obtain ⟨a6, c6, rfl, hc6, hs6⟩ := hown5.sIn hfz6) | (refine Zb (.func 274) ?_; refine qC rfl rfl (put64_spec _ _ _ _ _ hs6 s.lsn hls (by simp)) ?_; rintro v7 ρ7 L7 hle7 ⟨rfl, sp7, hown7, rfl⟩; simp only [kA]) | (refine Yj ?_; try intro _)) <;> ((try simp only [kA]); refine Zi ?_; refine rN ?_))))
  have hown7' : OwnS v7 18 ((UInt8.ofNat num :: UInt8.ofNat i :: (be 8 s.stamp ++ be 8 s.lsn)).map Zr) sp7 1 := hown7
  have h60 : 18 + ((i + 1) * 42 - i * 42) = 60 := by omega
  have hq1 : ((i : Int) * 42).toNat = i * 42 := by omega
  have hq2 : (((i : Int) + 1) * 42).toNat = (i + 1) * 42 := by omega
  have hbody : (UInt8.ofNat num :: UInt8.ofNat i :: (be 8 s.stamp ++ be 8 s.lsn)).map Zr ++ (((dataB s.c).drop (i * 42)).take ((i + 1) * 42 - i * 42)).map Zr = (bodyF num s.stamp s.lsn s.c i).map Zr := by
   rw [show (i + 1) * 42 - i * 42 = 42 by omega, Nat.mul_comm i 42, ← List.map_append]
   congr 1
  have hl37 : ρ3.le ρ7 := Hp.le_trans hl4 hl6
  repeat' (first | (simp only [hq1, hq2]; refine Yv (m := (i + 1) * 42 - i * 42) (sz := 1) rfl rfl hown7' (hR := by infer_instance) (SIn.srcV (hsub.mono hl37)) (by simp [dataB_len]; omega) (ZY _) (by decide) rfl (by omega) (by omega) rfl (fun v8 sp8 hown8 => ?_); rw [hbody] at hown8 ⊢; refine ZA (ZG v8 ((bodyF num s.stamp s.lsn s.c i).map Zr) sp8 5) (h := by infer_instance) (fun ρ8 hl8 hfz8 => ?_); obtain ⟨a8, c8, rfl, hc8, hs8⟩ := hown8.sIn hfz8; simp only [h60] at hs8 hc8 hown8 ⊢) | refine zW ?_ | intro _)
  refine tpA [0,1,2,3,4] (.e 5 [] (.e 6 [] (.e 7 [] .o))) ([]) ?_
  repeat' (refine iT ?_; first | refine rA ?_ | ((refine iE ?_; refine rE ?_) <;> ((try refine Zn ?_); (first | (refine Zb (.func 276) ?_; refine qR rfl rfl (sum32_spec _ a8 60 c8 _ hs8 (by omega)) ?_; try simp only [kA]) | (refine Zb (.func 275) ?_; refine qC rfl rfl (put32_spec _ a8 60 c8 _ hs8 (sumB (bodyF num s.stamp s.lsn s.c i)) (sumB_lt _) (by omega)) ?_; rintro v9 ρ9 L9 hle9 ⟨rfl, sp9, hown9, rfl⟩; simp only [kA]; refine ZA _ (h := Rem.here) (fun ρ10 hl10 hfz10 => ?_); obtain ⟨a10, c10, rfl, hc10, hs10⟩ := hown9.sIn hfz10) | ((try simp only [Int.toNat_natCast]); refine tl_copy (ys := (ZD num s.stamp s.lsn s.c i).map Zr) rfl rfl (SIn.srcV hs10) (by simp [hpl]) (ZY _) (by simp [hoL]; omega) rfl ?_; simp only [hol]) | (refine Yj ?_; try intro _)) <;> ((try simp only [kA]); refine Zi ?_; refine rN ?_))))
  all_goals (repeat' (first | refine zW ?_ | intro _))
  all_goals refine Zf (i + 1, _) (⟨hlt, Hp.le_trans hl3 (Hp.le_trans hl37 (Hp.le_trans hl8 hl10))⟩) Zc Zc rfl tk inferInstance (by first | omega | (dsimp only; omega))
 ·have h2 : i = 2 := by omega
  subst h2
  have hL2 : ((outF num s.stamp s.lsn s.c 2).map Zr).length = 128 := by rw [List.length_map]; exact outF_len _ _ _ _ (by omega)
  rw [outF_two] at hL2 ⊢
  have hL1 := ZY (ZD num s.stamp s.lsn s.c 0 ++ ZD num s.stamp s.lsn s.c 1)
  repeat' (first | refine zW ?_ | intro _)
  have hfin := Hp.le_trans hl1 (Hp.le_trans hl2 hl3)
  exact qE (L' := []) ⟨rfl, hfin, rfl⟩
def Yb (num : Nat) (a b : Blk) : SlD :=
 if 83 < (a.getD 18 0).toNat then zSl
 else
  ⟨Ye ((a.drop 2).take 8), Ye ((a.drop 10).take 8), (ZV ((((a.drop 18).take 42 ++ (b.drop 18).take 42).drop 1).take (a.getD 18 0).toNat)).1,
   decide ((ZV ((((a.drop 18).take 42 ++ (b.drop 18).take 42).drop 1).take (a.getD 18 0).toNat)).2.2 = 0 ∧ (ZV ((((a.drop 18).take 42 ++ (b.drop 18).take 42).drop 1).take (a.getD 18 0).toNat)).2.1 = (a.getD 18 0).toNat ∧ 0 < Ye ((a.drop 2).take 8) ∧
    ZD num (Ye ((a.drop 2).take 8)) (Ye ((a.drop 10).take 8)) (ZV ((((a.drop 18).take 42 ++ (b.drop 18).take 42).drop 1).take (a.getD 18 0).toNat)).1 0 ++ ZD num (Ye ((a.drop 2).take 8)) (Ye ((a.drop 10).take 8)) (ZV ((((a.drop 18).take 42 ++ (b.drop 18).take 42).drop 1).take (a.getD 18 0).toNat)).1 1 = a ++ b), 0⟩
theorem unbe_take8 (l : Bs) : Ye (l.take 8) < 18446744073709551616 := by
 have := unbe_lt (l.take 8)
 have h8 : (l.take 8).length ≤ 8 := by simp; omega
 have : 256 ^ (l.take 8).length ≤ 256 ^ 8 := Nat.pow_le_pow_right (by decide) h8
 omega
theorem u64_ok (ρ : Hp) (br : Nat) (a : Option Addr) (n c : Nat) (l : Bs) (h : SIn ρ Zr a n l) (hc : n ≤ c) (h8 : 8 ≤ n) :
  Spec Tryz.prog 179 [.pointer (some ⟨br, 0, none⟩)] ρ [rdC br a n c 0]
   (fun v ρ' L' => v = .int .u64 (Ye (l.take 8) : Nat) ∧ ρ' = ρ ∧ ∃ a' c', SIn ρ Zr a' (n - 8) (l.drop 8) ∧ n - 8 ≤ c' ∧ L' = [rdC br a' (n - 8) c' 0]) := by
 have hl := h.len
 have e : Yr 8 l 0 = (Ye (l.take 8), l.drop 8, 0) := by unfold Yr; rw [if_neg (by simp), if_neg (by omega)]
 refine (u64_spec ρ br a n c l h hc 0).mono ?_
 rintro v ρ' L' _ ⟨h1, h2, a', n', c', h3, h4, h5⟩
 rw [e] at h1 h3 h5
 have hn : n' = n - 8 := by have := h3.len; simp at this; omega
 subst hn
 exact ⟨h1, h2, a', c', h3, h4, h5⟩
theorem u32_ok (ρ : Hp) (br : Nat) (a : Option Addr) (n c : Nat) (l : Bs) (h : SIn ρ Zr a n l) (hc : n ≤ c) (h4 : 4 ≤ n) :
  Spec Tryz.prog 180 [.pointer (some ⟨br, 0, none⟩)] ρ [rdC br a n c 0] (fun v ρ' L' => v = .int .u32 (Ye (l.take 4) : Nat) ∧ ρ' = ρ ∧ ∃ a' n' c', L' = [rdC br a' n' c' 0]) := by
 have hl := h.len
 have e : Yr 4 l 0 = (Ye (l.take 4), l.drop 4, 0) := by unfold Yr; rw [if_neg (by simp), if_neg (by omega)]
 have hn := number_spec ρ br a n c l h hc 0 4 (by omega)
 rw [e] at hn
 have hlt := unbe_lt (l.take 4)
 rw [show (l.take 4).length = 4 by simp; omega] at hlt
 dsimp only at hn
 generalize Ye (l.take 4) = x at *
 refine Za Tryz.func180 rfl rfl rfl fun u R => ?_
 simp only [Zg, kA]
 repeat' (first | (refine Zb (.func 243) ?_; refine qC rfl rfl (hn) ?_; rintro v ρ' L' hle ⟨rfl, rfl, a', n', c', hs', hc', rfl⟩ <;> (try simp only [kA])) | refine zB ?_ | intro _)
 exact qE ⟨rfl, rfl, a', n', c', rfl⟩
theorem says_spec (ρ : Hp) (num : Nat) (hnum : num < 64) (a b : Blk) (ha : a.length = 64) (hb : b.length = 64) :
  Spec Tryz.prog 298 [.int .i64 num, .agg ⟨(a ++ b).map Zr⟩] ρ [] (fun v ρ' L' => ρ.le ρ' ∧ ∃ w, v = .agg ⟨slV (Yb num a b) w⟩ ∧ CIn ρ' w (Yb num a b).c.rows (Yb num a b).c.kids ∧ L' = []) := by
 have hab : ((a ++ b).map Zr).length = 128 := by simp [ha, hb]
 have hone := ZY (a ++ b)
 have e8 : ((a ++ b).drop 2).take 16 = (a.drop 2).take 16 := by rw [List.drop_append_of_le_length (by omega), List.take_append_of_le_length (by simp; omega)]
 refine Za Tryz.func298 rfl rfl rfl fun u R => ?_
 simp only [Zg, kA]
 repeat' (first | refine zB ?_ | intro _)
 rename_i b3 b4
 refine ZA [(b3, .cells ⟨(a ++ b).map Zr⟩ 278 (0, 0))] (h := by infer_instance) (fun ρ1 hl1 hfz => ?_)
 have hbs := hfz _ (List.mem_singleton.2 rfl)
 have hs16 := sIn_part hbs 2 16 (by simp; omega)
 rw [e8] at hs16
 simp only [show 0 + Int.toNat 0 * 64 + Int.toNat 2 * 1 = 2 from rfl, show Int.toNat 18 - Int.toNat 2 = 16 from rfl]
 repeat' (first | (refine Zb (.func 177) ?_; refine qC rfl rfl (read_spec _ _ 16 _ _ hs16 (by omega)) ?_; rintro v2 ρ2 L2 hle2 ⟨hl2, br, ra, rc, rfl, hrc, hrs, rfl⟩; simp only [kA]) | refine zB ?_ | intro _)
 repeat' (first | (refine Zb (.func 179) ?_; refine qC rfl rfl (u64_ok _ br ra 16 rc _ hrs hrc (by omega)) ?_; rintro v3 ρ3 L3 hle3 ⟨rfl, rfl, ra3, rc3, hrs3, hrc3, rfl⟩; simp only [kA]) | refine zB ?_ | intro _)
 repeat' (first | (refine Zb (.func 179) ?_; refine qC rfl rfl (u64_ok _ br ra3 8 rc3 _ hrs3 hrc3 (by omega)) ?_; rintro v4 ρ4 L4 hle4 ⟨rfl, rfl, ra4, rc4, hrs4, hrc4, rfl⟩; simp only [kA]) | refine zB ?_ | intro _)
 rename_i b6
 have hd0 : (a ++ b).getD 18 0 = a.getD 18 0 := by simp [List.getD_eq_getElem?_getD, List.getElem?_append_left (show 18 < a.length by omega)]
 have hx1 : Ye (((a.drop 2).take 16).take 8) = Ye ((a.drop 2).take 8) := by rw [List.take_take]; rfl
 have hx2 : Ye ((((a.drop 2).take 16).drop 8).take 8) = Ye ((a.drop 10).take 8) := by rw [List.drop_take, List.take_take, List.drop_drop]; rfl
 simp only [hx1, hx2]
 have hb4 := Hp.at' hl2 hbs
 dsimp only at hb4
 have hld : List.take 128 (List.drop 0 ((a ++ b).map Zr)) = (a ++ b).map Zr := by rw [List.drop_zero, List.take_of_length_le (by omega)]
 obtain ⟨dat, hdat⟩ : ∃ dat, dat = (a.drop 18).take 42 ++ (b.drop 18).take 42 := ⟨_, rfl⟩
 have hdl : dat.length = 84 := by rw [hdat]; simp; omega
 repeat' (first | refine zB ?_ | intro _)
 refine Zl [(0, _), (3, _), (4, _), (6, _), (22, _)] (fun (ζ : (Nat) × (Hp) × (Value) × (List Value)) => [(23, .int .i64 ζ.1), (7, ζ.2.2.1)]) (fun (ζ : (Nat) × (Hp) × (Value) × (List Value)) => ζ.2.1) (fun (ζ : (Nat) × (Hp) × (Value) × (List Value)) => [ZG ζ.2.2.1 ((dat.take (42 * ζ.1)).map Zr) ζ.2.2.2 5]) (fun (ζ : (Nat) × (Hp) × (Value) × (List Value)) => ζ.1 ≤ 2 ∧ ρ4.le ζ.2.1 ∧ OwnS ζ.2.2.1 (42 * ζ.1) ((dat.take (42 * ζ.1)).map Zr) ζ.2.2.2 1) (fun (ζ : (Nat) × (Hp) × (Value) × (List Value)) => 2 - ζ.1) ((0, ρ4, .slice none 0 0, [])) (⟨Nat.zero_le _, Hp.le_refl _, OwnS.nil 1⟩) Zc Zc rfl tk ?_
 rintro ⟨i, ρ5, v, sp⟩ hI
 try simp only [kA, List.append_assoc] at hI ⊢
 try dsimp only at hI ⊢
 obtain ⟨hi, hl5, hown⟩ := hI
 by_cases hlt : i < 2
 ·obtain ⟨blk, hbl, hix, hnx⟩ : ∃ blk : Blk, blk.length = 64 ∧ (((a ++ b).map Zr).drop (i * 64)).take 64 = blk.map Zr ∧ ((dat.take (42 * i)).map Zr ++ ((blk.drop 18).take 42).map Zr) = (dat.take (42 * (i + 1))).map Zr := by
   have hla : ((a.drop 18).take 42).length = 42 := by simp; omega
   have hlb : ((b.drop 18).take 42).length = 42 := by simp; omega
   rcases (show i = 0 ∨ i = 1 by omega) with rfl | rfl
   ·refine ⟨a, ha, ?_, ?_⟩
    ·rw [List.map_append, Nat.zero_mul, List.drop_zero, List.take_left' (by simpa using ha)]
    ·rw [hdat]
     simp only [Nat.mul_zero, List.take_zero, List.map_nil, List.nil_append]
     rw [List.take_left' hla]
   ·refine ⟨b, hb, ?_, ?_⟩
    ·rw [List.map_append, Nat.one_mul, List.drop_left' (by simpa using ha), List.take_of_length_le (by simp; omega)]
    ·rw [List.take_of_length_le (show dat.length ≤ 42 * (1 + 1) by omega), hdat, List.take_left' (by omega), List.map_append]
  have hb64 : (blk.map Zr).length = 64 := by simpa using hbl
  have hbo := ZY blk
  have hsub : ((blk.map Zr).drop 18).take 42 = ((blk.drop 18).take 42).map Zr := by rw [List.map_take, List.map_drop]
  have hsl : (((blk.drop 18).take 42).map Zr).length = 42 := by simp; omega
  repeat' (first | (refine tl_y (y_index_a rfl rfl hlt hix) rfl rfl ?_) | (simp only [show Int.toNat 60 - Int.toNat 18 = 42 from rfl, show 0 + Int.toNat 18 * 1 = 18 from rfl]; refine Yv (ys := ((blk.drop 18).take 42).map Zr) (m := 42) (sz := 1) rfl rfl hown (hR := by infer_instance) (SrcV.find hsub) hsl (ZY _) (by decide) rfl (by omega) (by omega) rfl (fun v7 sp7 hown7 => ?_); rw [hnx] at hown7 ⊢) | refine zB ?_ | intro _)
  refine Zf (i + 1, ρ5, v7, sp7) (⟨hlt, hl5, hown7⟩) Zc Zc rfl tk inferInstance (by first | omega | (dsimp only; omega))
 ·have h2 : i = 2 := by omega
  subst h2
  rw [List.take_of_length_le (show dat.length ≤ 42 * 2 by omega)] at hown ⊢
  repeat' (first | refine zB ?_ | intro _)
  refine ZA (ZG v (dat.map Zr) sp 5) (h := by infer_instance) (fun ρ6 hl6 hfz6 => ?_)
  obtain ⟨a7, c7, rfl, hc7, hs7⟩ := hown.sIn hfz6
  obtain ⟨bx, ox, Cx', Tx, frx, rfl, hbx, hcx⟩ := hs7.get (i := 0) (by omega)
  have hda : dat[0]'(by omega) = a.getD 18 0 := by
   simp only [hdat]
   rw [List.getElem_append_left (by simp; omega), List.getElem_take, List.getElem_drop]
   rw [List.getD_eq_getElem?_getD, List.getElem?_eq_getElem (by omega)]; rfl
  rw [hda] at hcx
  have hdlt := (a.getD 18 0).toNat_lt
  have hsF : Yb num a b = if 83 < (a.getD 18 0).toNat then zSl else
   ⟨Ye ((a.drop 2).take 8), Ye ((a.drop 10).take 8), (ZV ((dat.drop 1).take (a.getD 18 0).toNat)).1,
   decide ((ZV ((dat.drop 1).take (a.getD 18 0).toNat)).2.2 = 0 ∧ (ZV ((dat.drop 1).take (a.getD 18 0).toNat)).2.1 = (a.getD 18 0).toNat ∧ 0 < Ye ((a.drop 2).take 8) ∧
    ZD num (Ye ((a.drop 2).take 8)) (Ye ((a.drop 10).take 8)) (ZV ((dat.drop 1).take (a.getD 18 0).toNat)).1 0 ++ ZD num (Ye ((a.drop 2).take 8)) (Ye ((a.drop 10).take 8)) (ZV ((dat.drop 1).take (a.getD 18 0).toNat)).1 1 = a ++ b), 0⟩ := by
   rw [hdat]; rfl
  have hst8 := unbe_take8 (a.drop 2)
  have hls8 := unbe_take8 (a.drop 10)
  generalize Yb num a b = S at *
  generalize Ye ((a.drop 2).take 8) = st at *
  generalize Ye ((a.drop 10).take 8) = ls at *
  generalize a.getD 18 0 = d8 at *
  have hcx2 : Cx'[ox + Int.toNat 0 * 1]? = some (Zr d8) := hcx
  have hl46 : ρ.le ρ6 := Hp.le_trans hl1 (Hp.le_trans hl2 (Hp.le_trans hl5 hl6))
  by_cases hbig : 83 < d8.toNat
  ·rw [if_pos hbig] at hsF
   subst hsF
   repeat' (first | refine zB ?_ | intro _)
   exact qE (L' := []) ⟨hl46, ⟨none, 0, 0, none, 0, 0⟩, rfl, CIn.nil, rfl⟩
  ·rw [if_neg hbig] at hsF
   have hsub := hs7.sub (lo' := 1) (hi' := 1 + d8.toNat) (by omega) (by omega) (cap := c7) (by omega)
   rw [show 1 + d8.toNat - 1 = d8.toNat by omega] at hsub
   have htc := takeCont_spec _ _ d8.toNat (c7 - 1) _ hsub (by omega)
   have hok := @takeCont_ok ((dat.drop 1).take d8.toNat)
   generalize ZV ((dat.drop 1).take d8.toNat) = r at *
   obtain ⟨cc, kk, ec⟩ := r
   dsimp only at hsF htc hok
   have hq1 : ((1 : Int) + (d8.toNat : Int)).toNat - Int.toNat 1 = d8.toNat := by omega
   repeat' (first | (simp only [hq1]; refine Zb (.func 247) ?_; refine qC rfl rfl htc ?_; rintro v8 ρ8 L8 hle8 ⟨hl8, w, rfl, hC, rfl⟩; simp only [kA]) | refine zB ?_ | intro _)
   have hb8 := Hp.at' (Hp.le_trans hl2 (Hp.le_trans hl5 (Hp.le_trans hl6 hl8))) hbs
   dsimp only at hb8
   have hl48 := Hp.le_trans hl46 hl8
   by_cases h1 : ec = 0
   ·obtain ⟨n1, rfl, _, hco, _, hcf⟩ := hok h1
    have hir : ∀ r ∈ cc.rows, r.id < 65536 := fun r hr => (hcf.row r hr).id
    have hik : ∀ k ∈ cc.kids, k.id < 65536 := fun k hk => (hcf.kid k hk).id
    by_cases h2 : (n1 : Int) = d8.toNat
    ·by_cases h3 : 0 < st
     ·have hEq : EqC Tryz.prog 8 278 (.agg ⟨(ZD num st ls cc 0 ++ ZD num st ls cc 1).map Zr⟩) (.agg ⟨(a ++ b).map Zr⟩) (decide (ZD num st ls cc 0 ++ ZD num st ls cc 1 = a ++ b)) := eqC_two (m := 5) _ _ _ _ (YY _ _ _ _ (by omega)) (YY _ _ _ _ (by omega)) ha hb
      have h3' : (0 : Int) < ((st : Nat) : Int) := by omega
      by_cases h4 : ZD num st ls cc 0 ++ ZD num st ls cc 1 = a ++ b
      ·rw [decide_eq_true h4] at hEq
       refine tpA [0,1,2,3,4,5,6,7,8,9] (.e 10 [11,12,13,14,17] (.e 15 [] (.e 16 [18,19,20] (.e 21 [] .o)))) ([]) ?_
       repeat' (refine iT ?_; first | refine rA ?_ | ((refine iE ?_; refine rE ?_) <;> ((try refine Zn ?_); (first | (refine Zb (.func 196) ?_; refine qC rfl rfl (parts_spec _ num hnum ⟨st, ls, cc, false, 0⟩ w hC hco hir hik hst8 hls8) ?_; rintro v9 ρ9 L9 hle9 ⟨rfl, hl9, rfl⟩; simp only [kA]) | (refine i_qq ?_; refine qQ ?_) | (refine Yj ?_; try intro _)) <;> ((try simp only [kA]); refine Zi ?_; refine rN ?_))))
       all_goals (repeat' (first | refine zB ?_ | intro _))
       all_goals have hv : S = ⟨st, ls, cc, true, 0⟩ := by rw [hsF]; congr 1; exact decide_eq_true ⟨h1, h2, h3, h4⟩
       all_goals subst hv
       all_goals have hfin := Hp.le_trans hl48 hl9
       all_goals exact qE (L' := []) ⟨hfin, w, rfl, hC.mono hl9, rfl⟩
      ·rw [decide_eq_false h4] at hEq
       refine tpA [0,1,2,3,4,5,6,7,8,9] (.e 10 [11,12,13,14,17] (.e 15 [] (.e 16 [18,19,20] (.e 21 [] .o)))) ([]) ?_
       repeat' (refine iT ?_; first | refine rA ?_ | ((refine iE ?_; refine rE ?_) <;> ((try refine Zn ?_); (first | (refine Zb (.func 196) ?_; refine qC rfl rfl (parts_spec _ num hnum ⟨st, ls, cc, false, 0⟩ w hC hco hir hik hst8 hls8) ?_; rintro v9 ρ9 L9 hle9 ⟨rfl, hl9, rfl⟩; simp only [kA]) | (refine i_qq ?_; refine qQ ?_) | (refine Yj ?_; try intro _)) <;> ((try simp only [kA]); refine Zi ?_; refine rN ?_))))
       all_goals (repeat' (first | refine zB ?_ | intro _))
       all_goals have hv : S = ⟨st, ls, cc, false, 0⟩ := by rw [hsF]; congr 1; exact decide_eq_false (fun hh => h4 hh.2.2.2)
       all_goals subst hv
       all_goals have hfin := Hp.le_trans hl48 hl9
       all_goals exact qE (L' := []) ⟨hfin, w, rfl, hC.mono hl9, rfl⟩
     ·have h3' : ¬ (0 : Int) < ((st : Nat) : Int) := by omega
      refine tpA [0,1,2,3,4,5,6,7,8,9] (.e 10 [11,12,13,14,17] (.e 15 [] (.e 16 [18,19,20] (.e 21 [] .o)))) ([]) ?_
      repeat' (refine iT ?_; first | refine rA ?_ | ((refine iE ?_; refine rE ?_) <;> ((try refine Zn ?_); (first | (refine i_qq ?_; refine qQ ?_) | (refine Yj ?_; try intro _)) <;> ((try simp only [kA]); refine Zi ?_; refine rN ?_))))
      all_goals (repeat' (first | refine zB ?_ | intro _))
      all_goals have hv : S = ⟨st, ls, cc, false, 0⟩ := by rw [hsF]; congr 1; exact decide_eq_false (fun hh => h3 hh.2.2.1)
      all_goals subst hv
      all_goals have hfin := hl48
      all_goals exact qE (L' := []) ⟨hfin, w, rfl, hC, rfl⟩
    ·refine tpA [0,1,2,3,4,5,6,7,8,9] (.e 10 [11,12,13,14,17] (.e 15 [] (.e 16 [18,19,20] (.e 21 [] .o)))) ([]) ?_
     repeat' (refine iT ?_; first | refine rA ?_ | ((refine iE ?_; refine rE ?_) <;> ((try refine Zn ?_); (first | (refine i_qq ?_; refine qQ ?_) | (refine Yj ?_; try intro _)) <;> ((try simp only [kA]); refine Zi ?_; refine rN ?_))))
     all_goals (repeat' (first | refine zB ?_ | intro _))
     all_goals have hv : S = ⟨st, ls, cc, false, 0⟩ := by rw [hsF]; congr 1; exact decide_eq_false (fun hh => h2 hh.2.1)
     all_goals subst hv
     all_goals have hfin := hl48
     all_goals exact qE (L' := []) ⟨hfin, w, rfl, hC, rfl⟩
   ·refine tpA [0,1,2,3,4,5,6,7,8,9] (.e 10 [11,12,13,14,17] (.e 15 [] (.e 16 [18,19,20] (.e 21 [] .o)))) ([]) ?_
    repeat' (refine iT ?_; first | refine rA ?_ | ((refine iE ?_; refine rE ?_) <;> ((try refine Zn ?_); (first | (refine i_qq ?_; refine qQ ?_) | (refine Yj ?_; try intro _)) <;> ((try simp only [kA]); refine Zi ?_; refine rN ?_))))
    all_goals (repeat' (first | refine zB ?_ | intro _))
    all_goals have hv : S = ⟨st, ls, cc, false, 0⟩ := by rw [hsF]; congr 1; exact decide_eq_false (fun hh => h1 hh.1)
    all_goals subst hv
    all_goals have hfin := hl48
    all_goals exact qE (L' := []) ⟨hfin, w, rfl, hC, rfl⟩
def Xr (b : Blk) : Nat := Ye ((b.drop 2).take 8)
theorem stampOf_lt (b : Blk) : Xr b < 18446744073709551616 := unbe_take8 _
def PartOk (num i : Nat) (b : Blk) : Prop := (b.getD 0 0).toNat = num ∧ (b.getD 1 0).toNat = i ∧ Ye (b.drop 60) = sumB (b.take 60)
instance (num i : Nat) (b : Blk) : Decidable (PartOk num i b) := by unfold PartOk; infer_instance
def stampR (num i : Nat) (b : Blk) : Nat := if PartOk num i b then Xr b else 0
def XY (num : Nat) (a b : Blk) : Nat := max (stampR num 0 a) (stampR num 1 b)
def stampsTo (num : Nat) (a b : Blk) (i : Nat) : Nat := if i = 0 then 0 else if i = 1 then stampR num 0 a else XY num a b
theorem stamps_spec (ρ : Hp) (num : Nat) (hnum : num < 64) (a b : Blk) (ha : a.length = 64) (hb : b.length = 64) :
  Spec Tryz.prog 299 [.int .i64 num, .agg ⟨(a ++ b).map Zr⟩] ρ [] (fun v ρ' L' => v = .int .u64 (XY num a b : Nat) ∧ ρ.le ρ' ∧ L' = []) := by
 have hab : ((a ++ b).map Zr).length = 128 := by simp [ha, hb]
 have hone := ZY (a ++ b)
 have hld : List.take 128 (List.drop 0 ((a ++ b).map Zr)) = (a ++ b).map Zr := by rw [List.drop_zero, List.take_of_length_le (by omega)]
 refine Za Tryz.func299 rfl rfl rfl fun u R => ?_
 simp only [Zg, kA]
 repeat' (first | refine zB ?_ | intro _)
 refine Zl [(0, _), (4, _), (8, _)] (fun (ζ : (Nat) × (Hp) × (Nat)) => [(9, .int .i64 ζ.1), (5, .int .u64 ζ.2.2)]) (fun (ζ : (Nat) × (Hp) × (Nat)) => ζ.2.1) (fun (ζ : (Nat) × (Hp) × (Nat)) => []) (fun (ζ : (Nat) × (Hp) × (Nat)) => ζ.1 ≤ 2 ∧ ρ.le ζ.2.1 ∧ ζ.2.2 = stampsTo num a b ζ.1) (fun (ζ : (Nat) × (Hp) × (Nat)) => 2 - ζ.1) ((0, ρ, 0)) (⟨Nat.zero_le _, Hp.le_refl _, rfl⟩) Zc Zc rfl tk ?_
 rintro ⟨i, ρ5, y⟩ hI
 try simp only [kA, List.append_assoc] at hI ⊢
 try dsimp only at hI ⊢
 obtain ⟨hi, hl5, hy⟩ := hI
 by_cases hlt : i < 2
 ·obtain ⟨blk, hbl, hix, hnx⟩ : ∃ blk : Blk, blk.length = 64 ∧ (((a ++ b).map Zr).drop (i * 64)).take 64 = blk.map Zr ∧ max (stampsTo num a b i) (stampR num i blk) = stampsTo num a b (i + 1) := by
   rcases (show i = 0 ∨ i = 1 by omega) with rfl | rfl
   ·refine ⟨a, ha, ?_, by simp [stampsTo]⟩
    rw [List.map_append, Nat.zero_mul, List.drop_zero, List.take_left' (by simpa using ha)]
   ·refine ⟨b, hb, ?_, by simp [stampsTo, XY]⟩
    rw [List.map_append, Nat.one_mul, List.drop_left' (by simpa using ha), List.take_of_length_le (by simp; omega)]
  have hb64 : (blk.map Zr).length = 64 := by simpa using hbl
  have hbo := ZY blk
  repeat' (first | (refine tl_y (y_index_a rfl rfl hlt hix) rfl rfl ?_) | refine zB ?_ | intro _)
  rename_i b2 b7
  refine tc_freeze [(b7, .cells ⟨blk.map Zr⟩ 157 (0, 0))] (h := by infer_instance) (fun ρ6 hl6 hfz => ?_)
  have hbs := hfz _ (List.mem_singleton.2 rfl)
  dsimp only at hbs
  have hs60 := sIn_part hbs 60 4 (by omega)
  have hsA := sIn_part hbs 0 60 (by omega)
  have hs16 := sIn_part hbs 2 16 (by omega)
  rw [List.drop_zero] at hsA
  have hx60 : Ye (((blk.drop 60).take 4).take 4) = Ye (blk.drop 60) := by rw [List.take_take, List.take_of_length_le (by simp; omega)]
  have hc0 : (blk.map Zr)[0 + Int.toNat 0 * 1]? = some (Zr (blk.getD 0 0)) := by
   rw [show 0 + Int.toNat 0 * 1 = 0 from rfl, List.getElem?_map, List.getD_eq_getElem?_getD, List.getElem?_eq_getElem (by omega)]; rfl
  have hc1 : (blk.map Zr)[0 + Int.toNat 1 * 1]? = some (Zr (blk.getD 1 0)) := by
   rw [show 0 + Int.toNat 1 * 1 = 1 from rfl, List.getElem?_map, List.getD_eq_getElem?_getD, List.getElem?_eq_getElem (by omega)]; rfl
  have hx8 : Ye (((blk.drop 2).take 16).take 8) = Xr blk := by rw [List.take_take]; rfl
  have hl0 := (blk.getD 0 0).toNat_lt
  have hl1 := (blk.getD 1 0).toNat_lt
  have hyl : y < 18446744073709551616 := by
   have h1 := stampOf_lt a; have h2 := stampOf_lt b
   subst hy; unfold stampsTo XY stampR; repeat' split
   all_goals omega
  by_cases h0 : (blk.getD 0 0).toNat = num
  ·by_cases h1 : (blk.getD 1 0).toNat = i
   ·by_cases h2 : Ye (blk.drop 60) = sumB (blk.take 60)
    ·have h2' : ((Ye (blk.drop 60) : Nat) : Int) = ((sumB (blk.take 60) : Nat) : Int) := by rw [h2]
     have hR : stampR num i blk = Xr blk := if_pos ⟨h0, h1, h2⟩
     rw [hR, ← hy] at hnx
     refine tpA [0,1,2,3,4,5,6,7,8,9,10,11,12,13,16] (.e 14 [] (.e 15 [] (.e 17 [] (.f [18,19] .o)))) ([]) ?_
     repeat' (refine iT ?_; first | refine rA ?_ | ((refine iE ?_; refine rE ?_) <;> ((try refine Zn ?_); (first | (refine Zb (.func 177) ?_; refine qC rfl rfl (read_spec _ _ 4 _ _ (by first | exact hs60 | exact hs60.mono (by assumption)) (by omega)) ?_; rintro v2 ρ2 L2 hle2 ⟨hl2, br, ra, rc, rfl, hrc, hrs, rfl⟩; simp only [kA]) | (refine Zb (.func 180) ?_; refine qC rfl rfl (u32_ok _ br ra 4 rc _ hrs hrc (by omega)) ?_; rintro v3 ρ3 L3 hle3 ⟨rfl, rfl, ra3, rn3, rc3, rfl⟩; simp only [kA, hx60]) | (refine Zb (.func 276) ?_; refine qC rfl rfl (sum32_spec _ _ 60 _ _ (by first | exact hsA | exact hsA.mono (by assumption)) (by omega)) ?_; rintro v4 ρ4 L4 hle4 ⟨rfl, rfl, rfl⟩; simp only [kA]) | (refine Yj ?_; try intro _)) <;> ((try simp only [kA]); refine Zi ?_; refine rN ?_))))
     all_goals have hs16' := hs16.mono hl2
     all_goals (repeat' (first | (refine Zb (.func 177) ?_; refine qC rfl rfl (read_spec _ _ 16 _ _ hs16' (by omega)) ?_; rintro v5 ρ7 L5 hle5 ⟨hl7, br5, ra5, rc5, rfl, hrc5, hrs5, rfl⟩; simp only [kA]) | (refine Zb (.func 179) ?_; refine qC rfl rfl (u64_ok _ br5 ra5 16 rc5 _ hrs5 hrc5 (by omega)) ?_; rintro v6 ρ8 L6 hle6 ⟨rfl, rfl, ra6, rc6, hrs6, hrc6, rfl⟩; simp only [kA, hx8]) | refine zB ?_ | intro _))
     all_goals rw [show max ((y : Nat) : Int) ((Xr blk : Nat) : Int) = ((max y (Xr blk) : Nat) : Int) by omega]
     all_goals have hfin := Hp.le_trans hl5 (Hp.le_trans hl6 (Hp.le_trans hl2 hl7))
     all_goals refine Zf (i + 1, _, max y (Xr blk)) (⟨hlt, hfin, hnx⟩) Zc Zc rfl tk inferInstance (by first | omega | (dsimp only; omega))
    ·have h2' : ¬ ((Ye (blk.drop 60) : Nat) : Int) = ((sumB (blk.take 60) : Nat) : Int) := by omega
     refine tpA [0,1,2,3,4,5,6,7,8,9,10,11,12,13,16] (.e 14 [] (.e 15 [] (.e 17 [] (.f [18,19] .o)))) ([]) ?_
     repeat' (refine iT ?_; first | refine rA ?_ | ((refine iE ?_; refine rE ?_) <;> ((try refine Zn ?_); (first | (refine Zb (.func 177) ?_; refine qC rfl rfl (read_spec _ _ 4 _ _ (by first | exact hs60 | exact hs60.mono (by assumption)) (by omega)) ?_; rintro v2 ρ2 L2 hle2 ⟨hl2, br, ra, rc, rfl, hrc, hrs, rfl⟩; simp only [kA]) | (refine Zb (.func 180) ?_; refine qC rfl rfl (u32_ok _ br ra 4 rc _ hrs hrc (by omega)) ?_; rintro v3 ρ3 L3 hle3 ⟨rfl, rfl, ra3, rn3, rc3, rfl⟩; simp only [kA, hx60]) | (refine Zb (.func 276) ?_; refine qC rfl rfl (sum32_spec _ _ 60 _ _ (by first | exact hsA | exact hsA.mono (by assumption)) (by omega)) ?_; rintro v4 ρ4 L4 hle4 ⟨rfl, rfl, rfl⟩; simp only [kA]) | (refine Yj ?_; try intro _)) <;> ((try simp only [kA]); refine Zi ?_; refine rN ?_))))
     all_goals (repeat' (first | refine zB ?_ | intro _))
     all_goals have hR0 : stampR num i blk = 0 := if_neg (fun hh => h2 hh.2.2)
     all_goals rw [hR0, Nat.max_zero, ← hy] at hnx
     all_goals have hfin := Hp.le_trans hl5 (Hp.le_trans hl6 hl2)
     all_goals refine Zf (i + 1, _, y) (⟨hlt, hfin, hnx⟩) Zc Zc rfl tk inferInstance (by first | omega | (dsimp only; omega))
   ·skip
    refine tpA [0,1,2,3,4,5,6,7,8,9,10,11,12,13,16] (.e 14 [] (.e 15 [] (.e 17 [] (.f [18,19] .o)))) ([]) ?_
    repeat' (refine iT ?_; first | refine rA ?_ | ((refine iE ?_; refine rE ?_) <;> ((try refine Zn ?_); (first | (refine Yj ?_; try intro _)) <;> ((try simp only [kA]); refine Zi ?_; refine rN ?_))))
    all_goals (repeat' (first | refine zB ?_ | intro _))
    all_goals have hR0 : stampR num i blk = 0 := if_neg (fun hh => h1 hh.2.1)
    all_goals rw [hR0, Nat.max_zero, ← hy] at hnx
    all_goals refine Zf (i + 1, ρ6, y) (⟨hlt, Hp.le_trans hl5 hl6, hnx⟩) Zc Zc rfl tk inferInstance (by first | omega | (dsimp only; omega))
  ·skip
   refine tpA [0,1,2,3,4,5,6,7,8,9,10,11,12,13,16] (.e 14 [] (.e 15 [] (.e 17 [] (.f [18,19] .o)))) ([]) ?_
   repeat' (refine iT ?_; first | refine rA ?_ | ((refine iE ?_; refine rE ?_) <;> ((try refine Zn ?_); (first | (refine Yj ?_; try intro _)) <;> ((try simp only [kA]); refine Zi ?_; refine rN ?_))))
   all_goals (repeat' (first | refine zB ?_ | intro _))
   all_goals have hR0 : stampR num i blk = 0 := if_neg (fun hh => h0 hh.1)
   all_goals rw [hR0, Nat.max_zero, ← hy] at hnx
   all_goals refine Zf (i + 1, ρ6, y) (⟨hlt, Hp.le_trans hl5 hl6, hnx⟩) Zc Zc rfl tk inferInstance (by first | omega | (dsimp only; omega))
 ·have h2 : i = 2 := by omega
  subst h2
  repeat' (first | refine zB ?_ | intro _)
  subst hy
  exact qE (L' := []) ⟨rfl, hl5, rfl⟩
structure FIn (ρ : Hp) (fb db base : Nat) : Prop where
 at' : ρ fb = some (.cells ⟨[.pointer (some ⟨db, 0, none⟩), .int .i64 base]⟩ 330 (0, 0))
theorem FIn.mono {ρ ρ' : Hp} {fb db base : Nat} (h : FIn ρ fb db base) (hle : ρ.le ρ') : FIn ρ' fb db base := ⟨Hp.at' hle h.at'⟩
theorem at14_spec (ρ : Hp) (fb db base num which : Nat) (h : FIn ρ fb db base) (hb : base ≤ 100000) (hn : num < 64) (hw : which < 2) :
  Spec Tryz.prog 199 [.pointer (some ⟨fb, 0, none⟩), .int .i64 num, .int .i64 which] ρ [] (fun v ρ' L' => v = .int .i64 ((base + 4 * num + 2 * which : Nat) : Int) ∧ ρ' = ρ ∧ L' = []) := by
 have hb1 := h.at'
 refine Za Tryz.func199 rfl rfl rfl fun u R => ?_
 simp only [Zg, kA]
 repeat' (first | refine zB ?_ | intro _)
 rw [show (base : Int) + (2 * (num : Int) + (which : Int)) * 2 = ((base + 4 * num + 2 * which : Nat) : Int) by omega]
 exact qE (L' := []) ⟨rfl, rfl, rfl⟩
def slotAt (num : Nat) (a b : Blk) : SlD := { Yb num a b with most := XY num a b }
def Wb (D : DS) (i : Nat) : DS × (Blk × Blk) × Int :=
 if (D.read i).2.2 ≠ 0 then ((D.read i).1, (YQ, YQ), (D.read i).2.2)
 else if ((D.read i).1.read (i + 1 : Nat)).2.2 ≠ 0 then (((D.read i).1.read (i + 1 : Nat)).1, (YQ, YQ), ((D.read i).1.read (i + 1 : Nat)).2.2)
 else (((D.read i).1.read (i + 1 : Nat)).1, ((D.read i).2.1, ((D.read i).1.read (i + 1 : Nat)).2.1), 0)
def slD (D : DS) (base num : Nat) : Nat → DS
 | 0 => D
 | k + 1 => (Wb (slD D base num k) (base + 4 * num + 2 * k)).1
def slR (D : DS) (base num k : Nat) : DS × (Blk × Blk) × Int := Wb (slD D base num k) (base + 4 * num + 2 * k)
def slY (num : Nat) (r : DS × (Blk × Blk) × Int) : SlD × Int := if r.2.2 ≠ 0 then (zSl, r.2.2) else (slotAt num r.2.1.1 r.2.1.2, 0)
def YF (D : DS) (base num : Nat) : List (SlD × Int) :=
 if (slR D base num 0).2.2 ≠ 0 then [slY num (slR D base num 0)] else [slY num (slR D base num 0), slY num (slR D base num 1)]
def encS (ρ : Hp) (y : SlD × Int) (vs : List Value) : Prop := ∃ w, vs = [.agg ⟨slV y.1 w⟩, .int .i64 y.2] ∧ CIn ρ w y.1.c.rows y.1.c.kids
theorem rdSlot_ok {D : DS} {i : Nat} (h : D.Ok) : (Wb D i).1.Ok := by
 unfold Wb
 split
 ·exact h.read
 ·split <;> exact h.read.read
theorem slD_ok {D : DS} {base num : Nat} (h : D.Ok) : ∀ k, (slD D base num k).Ok
 | 0 => h
 | k + 1 => rdSlot_ok (slD_ok h k)
theorem rdSlot_secs (D : DS) (i : Nat) : (Wb D i).1.secs = D.secs := by
 unfold Wb
 split
 ·rw [read_secs]
 ·split <;> rw [read_secs, read_secs]
theorem Xu (D : DS) (base num : Nat) : ∀ k, (slD D base num k).secs = D.secs
 | 0 => rfl
 | k + 1 => by rw [slD, rdSlot_secs, Xu D base num k]
theorem slD_dok {k : DK} {D : DS} {base num : Nat} (h : DOk k D) (j : Nat) : DOk k (slD D base num j) := ⟨slD_ok h.ok j, by rw [Xu]; exact h.map⟩
theorem slotsX_at {D : DS} {base num j : Nat} (h : j < (YF D base num).length) : (YF D base num)[j] = slY num (slR D base num j) := by
 have : ∀ l : List (SlD × Int), YF D base num = l → ∀ h : j < l.length, l[j] = slY num (slR D base num j) := by
  intro l hl h
  unfold YF at hl
  split at hl <;> subst hl
  ·have : j = 0 := by simpa using h
   subst this; rfl
  ·rcases (show j = 0 ∨ j = 1 by simp at h; omega) with rfl | rfl <;> rfl
 exact this _ rfl h
theorem slotsX_len {D : DS} {base num : Nat} (h : (slR D base num 0).2.2 = 0) : (YF D base num).length = 2 := by
 unfold YF; rw [if_neg (by simp [h])]; rfl
theorem slotsX_last {D : DS} {base num j : Nat} (h : j < (YF D base num).length) (he : (slR D base num j).2.2 ≠ 0) : (YF D base num).length = j + 1 := by
 unfold YF at h ⊢
 split
 ·rename_i hc
  rw [if_pos hc] at h
  have : j = 0 := by simpa using h
  subst this; rfl
 ·rename_i hc
  rw [if_neg hc] at h
  rcases (show j = 0 ∨ j = 1 by simp at h; omega) with rfl | rfl
  ·exact absurd he hc
  ·rfl
theorem slots_iter (ρ0 : Hp) (b2 b3 fb db base num : Nat) (hf : FIn ρ0 fb db base) (h2 : ρ0 b2 = some (.cells ⟨[.pointer (some ⟨fb, 0, none⟩)]⟩ 82 (0, 0))) (h3 : ρ0 b3 = some (.cells ⟨[.int .i64 num]⟩ 3 (0, 0)))
  (hb : base ≤ 100000) (hn : num < 64) (k : DK) (D : DS) (hD : DOk k D) :
  IterS Tryz.prog 297 [] [.pointer (some ⟨b2, 0, none⟩), .pointer (some ⟨b3, 0, none⟩)] encS ρ0 (fun pre => Zk db k (slD D base num pre.length)) (YF D base num) := by
 intro l J Jx hM hY ρ Lj hl0 hJ
 have hXl : (YF D base num).length ≤ 2 := by unfold YF; split <;> simp
 refine Za Tryz.func297 rfl rfl rfl fun u R => ?_
 simp only [Zg, kA, List.append_assoc, List.length_nil]
 repeat' (first | refine zB ?_ | intro _)
 refine Zl [(0, _), (1, _), (2, _)] (fun (ζ : (Nat) × (Hp) × (SH)) => [(10, .int .i64 ζ.1)]) (fun (ζ : (Nat) × (Hp) × (SH)) => ζ.2.1) (fun (ζ : (Nat) × (Hp) × (SH)) => Zk db k (slD D base num ζ.1) ++ ζ.2.2) (fun (ζ : (Nat) × (Hp) × (SH)) => ζ.1 ≤ (YF D base num).length ∧ ρ.le ζ.2.1 ∧ J ((YF D base num).take ζ.1) ζ.2.1 ζ.2.2 ∧ (ζ.1 < 2 → ζ.1 < (YF D base num).length)) (fun (ζ : (Nat) × (Hp) × (SH)) => 2 - ζ.1) ((0, ρ, Lj)) (⟨Nat.zero_le _, Hp.le_refl _, hJ, fun _ => by unfold YF; split <;> simp⟩) Zc Zc rfl tk ?_
 rintro ⟨j, ρ1, L1⟩ hI
 try simp only [kA, List.append_assoc] at hI ⊢
 try dsimp only at hI ⊢
 obtain ⟨hj, hle1, hjj, hjx⟩ := hI
 by_cases hlt : j < 2
 ·have hk2 := hjx hlt
  have hpre := take_succ_pre (YF D base num) j hk2
  have hts := List.take_succ_eq_append_getElem hk2
  rw [slotsX_at hk2] at hpre hts
  have hlast := slotsX_last (j := j) hk2
  have hlen2 := fun h : j = 0 => slotsX_len (D := D) (base := base) (num := num) |>.comp (fun hh : (slR D base num j).2.2 = 0 => by rw [← h]; exact hh)
  have hSd : slD D base num (j + 1) = (slR D base num j).1 := rfl
  have hDj := slD_dok (base := base) (num := num) hD j
  have hlen : (List.take j (YF D base num) ++ [slY num (slR D base num j)]).length = j + 1 := by simp; omega
  have hy := fun vs ρ Lj h1 h2 h3 => hY _ _ vs ρ Lj hpre h1 h2 h3
  simp only [hlen, hSd] at hy
  have hR : slR D base num j = Wb (slD D base num j) (base + 4 * num + 2 * j) := rfl
  unfold Wb at hR
  have hat := fun ρ (h : FIn ρ fb db base) => at14_spec ρ fb db base num j h hb hn hlt
  have hbd : base + 4 * num + 2 * j ≤ 200000 := by omega
  generalize slR D base num j = RES at *
  generalize base + 4 * num + 2 * j = ix at *
  generalize slD D base num j = Dj at *
  have hk0 : ∀ ρ, Spec Tryz.prog _ _ ρ _ _ := fun ρ => kread ρ db k Dj (ix : Nat) hDj
  have hDa : DOk k (Dj.read (ix : Nat)).1 := ⟨hDj.ok.read, hDj.map.read⟩
  have hs0 := read_len hDj.ok (ix : Nat)
  generalize Dj.read (ix : Nat) = r0 at *
  obtain ⟨Da, s0, e0⟩ := r0
  dsimp only at hR hk0 hDa hs0
  have hk1 : ∀ ρ, Spec Tryz.prog _ _ ρ _ _ := fun ρ => kread ρ db k Da ((ix + 1 : Nat) : Nat) hDa
  have hDb : DOk k (Da.read ((ix + 1 : Nat) : Nat)).1 := ⟨hDa.ok.read, hDa.map.read⟩
  have hs1 := read_len hDa.ok ((ix + 1 : Nat) : Nat)
  generalize Da.read ((ix + 1 : Nat) : Nat) = r1 at *
  obtain ⟨Db, s1, e1⟩ := r1
  dsimp only at hR hk1 hDb hs1
  repeat' (first | refine zB ?_ | intro _)
  rename_i b5
  have hl01 := Hp.le_trans hl0 hle1
  have hf1 := hf.mono hl01
  have hb2 := Hp.at' hl01 h2
  have hb3 := Hp.at' hl01 h3
  have hfile := hf1.at'
  have hpl0 : (s0.map Zr).length = 64 := by simpa using hs0
  have hpo0 := ZY s0
  have hpl1 : (s1.map Zr).length = 64 := by simpa using hs1
  have hpo1 := ZY s1
  have hst0 : stc ((z8 128).map Zr) (0 + Int.toNat 0 * 64) (s0.map Zr) = (s0 ++ z8 64).map Zr := by simp [stc, z8, hs0]
  have hst1 : stc ((s0 ++ z8 64).map Zr) (0 + Int.toNat 1 * 64) (s1.map Zr) = (s0 ++ s1).map Zr := by simp [stc, z8, hs0, hs1]
  have hl128 : ((s0 ++ z8 64).map Zr).length = 128 := by simp [z8, hs0]
  have hlc : ((s0 ++ s1).map Zr).length = 128 := by simp [hs0, hs1]
  have hoc := ZY (s0 ++ s1)
  have hix0 : (ix : Int) + 0 = (ix : Int) := by omega
  have hix1 : (ix : Int) + 1 = ((ix + 1 : Nat) : Int) := by omega
  refine Zl [(0, _), (1, _), (2, _), (4, _), (5, _), (10, _), (11, _), (12, _)] (fun (ζ : (Int) × (List Value) × (DS)) => [(13, .int .i64 ζ.1)]) (fun (ζ : (Int) × (List Value) × (DS)) => ρ1) (fun (ζ : (Int) × (List Value) × (DS)) => [[(b5, .cells ⟨ζ.2.1⟩ 278 (0, 0))]] ++ Zk db k ζ.2.2) (fun (ζ : (Int) × (List Value) × (DS)) => DOk k ζ.2.2 ∧ ((ζ.1 = 0 ∧ ζ.2.2 = Dj ∧ ζ.2.1 = (z8 128).map Zr) ∨ (ζ.1 = 1 ∧ ζ.2.2 = Da ∧ e0 = 0 ∧ ζ.2.1 = (s0 ++ z8 64).map Zr) ∨ (ζ.1 = 2 ∧ ζ.2.2 = Db ∧ e0 = 0 ∧ e1 = 0 ∧ ζ.2.1 = (s0 ++ s1).map Zr))) (fun (ζ : (Int) × (List Value) × (DS)) => (2 - ζ.1).toNat) ((0, (z8 128).map Zr, Dj)) (⟨hDj, .inl ⟨rfl, rfl, rfl⟩⟩) Zc Zc rfl tk ?_
  rintro ⟨i, cs, D1⟩ hI
  try simp only [kA, List.append_assoc] at hI ⊢
  try dsimp only at hI ⊢
  obtain ⟨hD1, hor⟩ := hI
  rcases hor with ⟨rfl, rfl, rfl⟩ | ⟨rfl, rfl, rfl, rfl⟩ | ⟨rfl, rfl, rfl, rfl, rfl⟩
  ·by_cases he : e0 = 0
   ·subst he
    repeat' (first | refine zB ?_ | intro _)
    refine tpA [0,1,2,3,4,5,6,8] (.b 7 14 [9] [] (.b 10 14 [11,12] [] (.b 13 14 [] [] (.e 14 [] (.e 15 [] (.f [16] .o))) (.b 13 15 [] [] (.e 15 [] (.f [16] .o)) (.e 13 [] (.f [16] .o)))) (.e 10 [11,12] (.b 13 15 [] [] (.e 15 [] (.f [16] .o)) (.e 13 [] (.f [16] .o))))) (.e 7 [9] (.e 10 [11,12] (.b 13 15 [] [] (.e 15 [] (.f [16] .o)) (.e 13 [] (.f [16] .o)))))) ([]) ?_
    repeat' (refine iT ?_; first | refine rA ?_ | ((first | (refine iE ?_; refine rE ?_) | (refine iB ?_; refine rB ?_ ?_)) <;> ((try refine Zn ?_); (first | (refine Zb (.func 199) ?_; refine qC rfl rfl ((hat _ hf1)) ?_; rintro v ρ' L' hle ⟨rfl, rfl, rfl⟩ <;> (try simp only [kA])) | (simp only [hix0]; refine Zb (.func 173) ?_; refine qC rfl rfl (hk0 _) ?_; rintro v2 ρ2 L2 hle2 ⟨rfl, rfl, hD2, rfl⟩; try simp only [kA]) | (refine i_qq ?_; refine qQ ?_) | (refine Yj ?_; try intro _)) <;> ((try simp only [kA]); refine Zi ?_; refine rN ?_))))
    all_goals (repeat' (first | refine zB ?_ | intro _))
    all_goals rw [hst0]
    all_goals refine Zf (1, (s0 ++ z8 64).map Zr, Da) (⟨hD2, .inr (.inl (by simp))⟩) Zc Zc rfl tk inferInstance (by first | omega | (dsimp only; omega))
   ·have hcb : (e0 != 0) = true := by simpa using he
    have hRE : RES = (Da, (YQ, YQ), e0) := by rw [hR]; exact if_pos he
    subst hRE
    have hsY : slY num (Da, (YQ, YQ), e0) = (zSl, e0) := if_pos he
    rw [hsY] at hy hts
    have hln := hlast he
    have hfull : YF D base num = List.take j (YF D base num) ++ [(zSl, e0)] := by rw [← hts]; exact (List.take_of_length_le (by omega)).symm
    have hyE := fun ρ h1 h3 => hy [.agg ⟨slV zSl ⟨none, 0, 0, none, 0, 0⟩⟩, .int .i64 e0] ρ L1 h1 ⟨⟨none, 0, 0, none, 0, 0⟩, rfl, CIn.nil⟩ h3
    repeat' (first | refine zB ?_ | intro _)
    refine tpA [0,1,2,3,4,5,6,8] (.b 7 14 [9] [] (.b 10 14 [11,12] [] (.b 13 14 [] [] (.e 14 [] (.e 15 [] (.f [16] .o))) (.b 13 15 [] [] (.e 15 [] (.f [16] .o)) (.e 13 [] (.f [16] .o)))) (.e 10 [11,12] (.b 13 15 [] [] (.e 15 [] (.f [16] .o)) (.e 13 [] (.f [16] .o))))) (.e 7 [9] (.e 10 [11,12] (.b 13 15 [] [] (.e 15 [] (.f [16] .o)) (.e 13 [] (.f [16] .o)))))) ([]) ?_
    repeat' (refine iT ?_; first | refine rA ?_ | ((first | (refine iE ?_; refine rE ?_) | (refine iB ?_; refine rB ?_ ?_)) <;> ((try refine Zn ?_); (first | (refine Zb (.func 199) ?_; refine qC rfl rfl ((hat _ hf1)) ?_; rintro v ρ' L' hle ⟨rfl, rfl, rfl⟩ <;> (try simp only [kA])) | (simp only [hix0]; refine Zb (.func 173) ?_; refine qC rfl rfl (hk0 _) ?_; rintro v2 ρ2 L2 hle2 ⟨rfl, rfl, hD2, rfl⟩; try simp only [kA]) | (refine i_qq ?_; refine qQ ?_) | (refine Yj ?_; try intro _)) <;> ((try simp only [kA]); refine Zi ?_; refine rN ?_))))
    all_goals try simp only [hcb]
    all_goals (repeat' (first | (refine Zb (.tmp 32) ?_; refine qY rfl rfl (hyE _ hl01 hjj) ?_; rintro v ρ' L' hle ⟨Lj', rfl, ⟨rfl, hj'⟩ | ⟨rfl, hj'⟩⟩ <;> (try simp only [kA])) | refine zB ?_ | intro _))
    all_goals first | exact qE (L' := Zk db k Da ++ Lj') ⟨Lj', .inl ⟨by show Zk db k Da ++ Lj' = Zk db k (slD D base num (YF D base num).length) ++ Lj'; rw [hln, hSd], by rw [hfull]; exact hj'⟩⟩ | exact qE (L' := Zk db k Da ++ Lj') ⟨Lj', .inr ⟨List.take j (YF D base num) ++ [(zSl, e0)], by show Zk db k Da ++ Lj' = Zk db k (slD D base num _) ++ Lj'; rw [← hfull, hln, hSd], hj'⟩⟩
  ·by_cases he : e1 = 0
   ·subst he
    repeat' (first | refine zB ?_ | intro _)
    refine tpA [0,1,2,3,4,5,6,8] (.b 7 14 [9] [] (.b 10 14 [11,12] [] (.b 13 14 [] [] (.e 14 [] (.e 15 [] (.f [16] .o))) (.b 13 15 [] [] (.e 15 [] (.f [16] .o)) (.e 13 [] (.f [16] .o)))) (.e 10 [11,12] (.b 13 15 [] [] (.e 15 [] (.f [16] .o)) (.e 13 [] (.f [16] .o))))) (.e 7 [9] (.e 10 [11,12] (.b 13 15 [] [] (.e 15 [] (.f [16] .o)) (.e 13 [] (.f [16] .o)))))) ([]) ?_
    repeat' (refine iT ?_; first | refine rA ?_ | ((first | (refine iE ?_; refine rE ?_) | (refine iB ?_; refine rB ?_ ?_)) <;> ((try refine Zn ?_); (first | (refine Zb (.func 199) ?_; refine qC rfl rfl ((hat _ hf1)) ?_; rintro v ρ' L' hle ⟨rfl, rfl, rfl⟩ <;> (try simp only [kA])) | (simp only [hix1]; refine Zb (.func 173) ?_; refine qC rfl rfl (hk1 _) ?_; rintro v2 ρ2 L2 hle2 ⟨rfl, rfl, hD2, rfl⟩; try simp only [kA]) | (refine i_qq ?_; refine qQ ?_) | (refine Yj ?_; try intro _)) <;> ((try simp only [kA]); refine Zi ?_; refine rN ?_))))
    all_goals (repeat' (first | refine zB ?_ | intro _))
    all_goals rw [hst1]
    all_goals refine Zf (2, (s0 ++ s1).map Zr, Db) (⟨hD2, .inr (.inr (by simp))⟩) Zc Zc rfl tk inferInstance (by first | omega | (dsimp only; omega))
   ·have hcb : (e1 != 0) = true := by simpa using he
    have hRE : RES = (Db, (YQ, YQ), e1) := by rw [hR]; rw [if_neg (by simp)]; exact if_pos he
    subst hRE
    have hsY : slY num (Db, (YQ, YQ), e1) = (zSl, e1) := if_pos he
    rw [hsY] at hy hts
    have hln := hlast he
    have hfull : YF D base num = List.take j (YF D base num) ++ [(zSl, e1)] := by rw [← hts]; exact (List.take_of_length_le (by omega)).symm
    have hyE := fun ρ h1 h3 => hy [.agg ⟨slV zSl ⟨none, 0, 0, none, 0, 0⟩⟩, .int .i64 e1] ρ L1 h1 ⟨⟨none, 0, 0, none, 0, 0⟩, rfl, CIn.nil⟩ h3
    repeat' (first | refine zB ?_ | intro _)
    refine tpA [0,1,2,3,4,5,6,8] (.b 7 14 [9] [] (.b 10 14 [11,12] [] (.b 13 14 [] [] (.e 14 [] (.e 15 [] (.f [16] .o))) (.b 13 15 [] [] (.e 15 [] (.f [16] .o)) (.e 13 [] (.f [16] .o)))) (.e 10 [11,12] (.b 13 15 [] [] (.e 15 [] (.f [16] .o)) (.e 13 [] (.f [16] .o))))) (.e 7 [9] (.e 10 [11,12] (.b 13 15 [] [] (.e 15 [] (.f [16] .o)) (.e 13 [] (.f [16] .o)))))) ([]) ?_
    repeat' (refine iT ?_; first | refine rA ?_ | ((first | (refine iE ?_; refine rE ?_) | (refine iB ?_; refine rB ?_ ?_)) <;> ((try refine Zn ?_); (first | (refine Zb (.func 199) ?_; refine qC rfl rfl ((hat _ hf1)) ?_; rintro v ρ' L' hle ⟨rfl, rfl, rfl⟩ <;> (try simp only [kA])) | (simp only [hix1]; refine Zb (.func 173) ?_; refine qC rfl rfl (hk1 _) ?_; rintro v2 ρ2 L2 hle2 ⟨rfl, rfl, hD2, rfl⟩; try simp only [kA]) | (refine i_qq ?_; refine qQ ?_) | (refine Yj ?_; try intro _)) <;> ((try simp only [kA]); refine Zi ?_; refine rN ?_))))
    all_goals try simp only [hcb]
    all_goals (repeat' (first | (refine Zb (.tmp 32) ?_; refine qY rfl rfl (hyE _ hl01 hjj) ?_; rintro v ρ' L' hle ⟨Lj', rfl, ⟨rfl, hj'⟩ | ⟨rfl, hj'⟩⟩ <;> (try simp only [kA])) | refine zB ?_ | intro _))
    all_goals first | exact qE (L' := Zk db k Db ++ Lj') ⟨Lj', .inl ⟨by show Zk db k Db ++ Lj' = Zk db k (slD D base num (YF D base num).length) ++ Lj'; rw [hln, hSd], by rw [hfull]; exact hj'⟩⟩ | exact qE (L' := Zk db k Db ++ Lj') ⟨Lj', .inr ⟨List.take j (YF D base num) ++ [(zSl, e1)], by show Zk db k Db ++ Lj' = Zk db k (slD D base num _) ++ Lj'; rw [← hfull, hln, hSd], hj'⟩⟩
  ·have hRE : RES = (D1, (s0, s1), 0) := by rw [hR, if_neg (by simp), if_neg (by simp)]
   subst hRE
   have hsY : slY num (D1, (s0, s1), 0) = (slotAt num s0 s1, 0) := if_neg (by simp)
   rw [hsY] at hy hts
   have hsa := fun ρ => says_spec ρ num hn s0 s1 hs0 hs1
   have hsm := fun ρ => stamps_spec ρ num hn s0 s1 hs0 hs1
   repeat' (first | (refine Zb (.func 298) ?_; refine qC rfl rfl (hsa _) ?_; rintro v3 ρ3 L3 hle3 ⟨hl3, w, rfl, hC, rfl⟩; have hb3' := Hp.at' hl3 hb3; try simp only [kA]) | refine zB ?_ | intro _)
   repeat' (first | (refine Zb (.func 299) ?_; refine qC rfl rfl (hsm _) ?_; rintro v4 ρ4 L4 hle4 ⟨rfl, hl4, rfl⟩; try simp only [kA]) | refine zB ?_ | intro _)
   have hl14 := Hp.le_trans hl3 hl4
   have hyG := hy [.agg ⟨slV (slotAt num s0 s1) w⟩, .int .i64 0] ρ4 L1 (Hp.le_trans hl01 hl14) ⟨w, rfl, hC.mono hl4⟩ (hM _ _ _ _ hl14 hjj)
   repeat' (first | (refine Zb (.tmp 47) ?_; refine qY rfl rfl (hyG) ?_; rintro v ρ' L' hle ⟨Lj', rfl, ⟨rfl, hj'⟩ | ⟨rfl, hj'⟩⟩ <;> (try simp only [kA])) | refine zB ?_ | intro _)
   ·have hD1e : D1 = slD D base num (j + 1) := hSd.symm
    have hfl : j + 1 < 2 → j + 1 < (YF D base num).length := fun h => by
     have := hlen2 (by omega) rfl; omega
    repeat' (first | refine zB ?_ | intro _)
    rw [hD1e]
    refine Zf (j + 1, ρ', Lj') (⟨hk2, Hp.le_trans hle1 (Hp.le_trans hl14 hle), by dsimp only; rw [hts]; exact hj', hfl⟩) Zc Zc rfl tk inferInstance (by first | omega | (dsimp only; omega))
   ·exact qE (L' := Zk db k D1 ++ Lj') ⟨Lj', .inr ⟨List.take j (YF D base num) ++ [(slotAt num s0 s1, 0)], by show Zk db k D1 ++ Lj' = Zk db k (slD D base num _) ++ Lj'; rw [List.length_append, List.length_singleton, List.length_take, Nat.min_eq_left (by omega), hSd], hj'⟩⟩
 ·have h2 : j = 2 := by omega
  subst h2
  have hln : (YF D base num).length = 2 := by omega
  rw [List.take_of_length_le (by omega)] at hjj
  repeat' (first | refine zB ?_ | intro _)
  exact qE (L' := Zk db k (slD D base num 2) ++ L1) ⟨L1, .inl ⟨by show Zk db k (slD D base num 2) ++ L1 = Zk db k (slD D base num (YF D base num).length) ++ L1; rw [hln], hjj⟩⟩
theorem slots_spec (ρ : Hp) (fb num : Nat) :
  Spec Tryz.prog 229 [.pointer (some ⟨fb, 0, none⟩), .int .i64 num] ρ [] (fun v ρ' L' => ρ.le ρ' ∧ ∃ b2 b3, v = .func (.func 297) ⟨[]⟩ ⟨[.pointer (some ⟨b2, 0, none⟩), .pointer (some ⟨b3, 0, none⟩)]⟩ ∧ ρ' b2 = some (.cells ⟨[.pointer (some ⟨fb, 0, none⟩)]⟩ 82 (0, 0)) ∧ ρ' b3 = some (.cells ⟨[.int .i64 num]⟩ 3 (0, 0)) ∧ L' = []) := by
 refine Za Tryz.func229 rfl rfl rfl fun u R => ?_
 simp only [Zg, kA]
 repeat' (first | refine zB ?_ | intro _)
 rename_i b2 b3
 refine YG [(b2, .cells ⟨[.pointer (some ⟨fb, 0, none⟩)]⟩ 82 (0, 0))] (h := by infer_instance) (fun ρ1 hl1 hf1 => ?_)
 refine YG [(b3, .cells ⟨[.int .i64 num]⟩ 3 (0, 0))] (h := by infer_instance) (fun ρ2 hl2 hf2 => ?_)
 have h1 := Hp.at' hl2 (hf1 _ (List.mem_singleton.2 rfl))
 have h2 := hf2 _ (List.mem_singleton.2 rfl)
 have hfin := Hp.le_trans hl1 hl2
 exact qE (L' := []) ⟨hfin, b2, b3, rfl, h1, h2, rfl⟩
structure CS where
 best : SlD
 other : Nat
 most : Nat
def CS.step (a : CS) (which : Nat) (s : SlD) : CS :=
 if s.right = true ∧ (a.best.right = false ∨ a.best.stamp < s.stamp) then ⟨s, 1 - which, max a.most s.most⟩ else ⟨a.best, a.other, max a.most s.most⟩
def csTo (D : DS) (base num : Nat) : Nat → CS
 | 0 => ⟨zSl, 0, 0⟩
 | k + 1 => (csTo D base num k).step k (slY num (slR D base num k)).1
theorem pre_last {α : Type} {pre X : List α} {y : α} (h : pre ++ [y] <+: X) : ∃ hl : pre.length < X.length, X[pre.length] = y := by
 obtain ⟨t, rfl⟩ := h
 exact ⟨by simp, by simp⟩
theorem saysF_lt (num : Nat) (a b : Blk) : (Yb num a b).stamp < 18446744073709551616 ∧ (Yb num a b).lsn < 18446744073709551616 := by
 unfold Yb
 split
 ·exact ⟨by decide, by decide⟩
 ·exact ⟨unbe_take8 _, unbe_take8 _⟩
theorem stampsF_lt (num : Nat) (a b : Blk) : XY num a b < 18446744073709551616 := by
 have h1 := stampOf_lt a; have h2 := stampOf_lt b
 unfold XY stampR
 repeat' split
 all_goals omega
structure SlLt (s : SlD) : Prop where
 stamp : s.stamp < 18446744073709551616
 lsn : s.lsn < 18446744073709551616
 most : s.most < 18446744073709551616
theorem zSl_lt : SlLt zSl := ⟨by decide, by decide, by decide⟩
theorem slY_lt (num : Nat) (r : DS × (Blk × Blk) × Int) : SlLt (slY num r).1 := by
 unfold slY
 split
 ·exact zSl_lt
 ·exact ⟨(saysF_lt _ _ _).1, (saysF_lt _ _ _).2, stampsF_lt _ _ _⟩
theorem csTo_lt (D : DS) (base num : Nat) : ∀ k, SlLt (csTo D base num k).best ∧ (csTo D base num k).most < 18446744073709551616 ∧ (csTo D base num k).other < 2
 | 0 => ⟨zSl_lt, by show (0 : Nat) < _; omega, by show (0 : Nat) < 2; omega⟩
 | k + 1 => by
  obtain ⟨h1, h2, h3⟩ := csTo_lt D base num k
  have h4 := slY_lt num (slR D base num k)
  have h5 := h4.most
  rw [csTo, CS.step]
  split
  ·exact ⟨h4, by dsimp only; omega, by dsimp only; omega⟩
  ·exact ⟨h1, by dsimp only; omega, h3⟩
def Zt (D : DS) (base num : Nat) : (SlD × Nat) × DS × Int :=
 if (slR D base num 0).2.2 ≠ 0 then ((zSl, 0), (slR D base num 0).1, (slR D base num 0).2.2)
 else if (slR D base num 1).2.2 ≠ 0 then ((zSl, 0), (slR D base num 1).1, (slR D base num 1).2.2)
 else (({ (csTo D base num 2).best with most := (csTo D base num 2).most }, (csTo D base num 2).other), slD D base num 2, 0)
abbrev cntC (b4 b5 b6 b7 b8 : Nat) (s : SlD) (w : CV) (other : Int) (e which : Int) (most : Nat) : SH := [[(b4, .cells ⟨slV s w⟩ 268 (0, 0))], [(b5, .cells ⟨[.int .i64 other]⟩ 3 (0, 0))], [(b6, .cells ⟨[.int .i64 e]⟩ 27 (0, 0))], [(b7, .cells ⟨[.int .i64 which]⟩ 3 (0, 0))], [(b8, .cells ⟨[.int .u64 most]⟩ 33 (0, 0))]]
abbrev zCV : CV := ⟨none, 0, 0, none, 0, 0⟩
theorem fcounts_spec (ρ : Hp) (fb db base num : Nat) (hf : FIn ρ fb db base) (hb : base ≤ 100000) (hn : num < 64) (k : DK) (D : DS) (hD : DOk k D) :
  Spec Tryz.prog 160 [.pointer (some ⟨fb, 0, none⟩), .int .i64 num] ρ (Zk db k D) (fun v ρ' L' => ρ.le ρ' ∧ ∃ w, v = .tuple ⟨[.agg ⟨slV (Zt D base num).1.1 w⟩, .int .i64 (Zt D base num).1.2, .int .i64 (Zt D base num).2.2]⟩ ∧ CIn ρ' w (Zt D base num).1.1.c.rows (Zt D base num).1.1.c.kids ∧ DOk k (Zt D base num).2.1 ∧ L' = Zk db k (Zt D base num).2.1) := by
 refine Za Tryz.func160 rfl rfl rfl fun u R => ?_
 simp only [Zg, kA]
 repeat' (first | (refine Zb (.func 229) ?_; refine qC rfl rfl (slots_spec _ fb num) ?_; rintro v1 ρ1 L1 hle1 ⟨hl1, c2, c3, rfl, hc2, hc3, rfl⟩; try simp only [kA]) | refine zB ?_ | intro _)
 rename_i b4 b5 b6 b7 b8
 have hf1 := hf.mono hl1
 have hIt := slots_iter ρ1 c2 c3 fb db base num hf1 hc2 hc3 hb hn k D hD
 have hXl : (YF D base num).length ≤ 2 := by unfold YF; split <;> simp
 have hlt := csTo_lt D base num
 refine tc_rangeFuncS (S := fun pre => Zk db k (slD D base num pre.length)) (L0 := cntC b4 b5 b6 b7 b8 zSl zCV 0 0 0 0) (R := R) (R0 := [(b8, .cells ⟨[.int .u64 0]⟩ 33 (0, 0))] :: [(b7, .cells ⟨[.int .i64 0]⟩ 3 (0, 0))] :: [(b6, .cells ⟨[.int .i64 0]⟩ 27 (0, 0))] :: [(b5, .cells ⟨[.int .i64 0]⟩ 3 (0, 0))] :: [(b4, .cells ⟨slV zSl zCV⟩ 268 (0, 0))] :: R) rfl rfl hIt (Hp.le_refl _) (fun ρ y vs ⟨w, e, _⟩ => by rw [e]; rfl) rfl
  (fun pre ρ2 Lu => ρ1.le ρ2 ∧ (∀ j, j < pre.length → (slR D base num j).2.2 = 0) ∧ ∃ w, CIn ρ2 w (csTo D base num pre.length).best.c.rows (csTo D base num pre.length).best.c.kids ∧ Lu = cntC b4 b5 b6 b7 b8 (csTo D base num pre.length).best w (csTo D base num pre.length).other 0 pre.length (csTo D base num pre.length).most)
  (fun pre c ρ2 Lu => c = .ret ∧ ρ1.le ρ2 ∧ ∃ which most e, e ≠ 0 ∧ Zt D base num = ((zSl, 0), slD D base num pre.length, e) ∧ Lu = cntC b4 b5 b6 b7 b8 zSl zCV 0 e which most)
  ?k1 ?k2 (fun pre ρ2 ρ3 Lj h23 ⟨h1, h2, w, h3, h4⟩ => ⟨Hp.le_trans h1 h23, h2, w, h3.mono h23, h4⟩) ⟨Hp.le_refl _, by simp, zCV, CIn.nil, rfl⟩ ?round ?done ?stop
 case k1 => exact tk
 case k2 => exact tk
 case round =>
  rintro l tm r pre y vs ρ2 Lu u R' hpre hl2 ⟨w, rfl, hC⟩ ⟨hl3, hno, w0, hC0, rfl⟩ hr hrec
  obtain ⟨hpl, hy⟩ := pre_last hpre
  rw [slotsX_at hpl] at hy
  have hp2 : pre.length < 2 := by omega
  simp only [envP, kA, List.length_append, List.length_singleton]
  have hq := hlt pre.length
  repeat' (first | refine zB ?_ | intro _)
  refine ZH [(l, .loop r)] ?_
  refine te_begin rfl hr (fun r' hbz hrec' => ?_)
  rename_i b9
  have hy2 : y.2 = (slR D base num pre.length).2.2 := by
   rw [← hy]; unfold slY; split
   ·rfl
   ·rename_i hc; simp only [ne_eq, Decidable.not_not] at hc; rw [hc]
  by_cases he : y.2 = 0
  ·have hno' : ∀ j, j < pre.length + 1 → (slR D base num j).2.2 = 0 := fun j hj => by
    rcases (show j < pre.length ∨ j = pre.length by omega) with h | h
    ·exact hno j h
    ·rw [h, ← hy2, he]
   have WP : csTo D base num (pre.length + 1) = (csTo D base num pre.length).step pre.length y.1 := by rw [← hy]; rfl
   have hsl := slY_lt num (slR D base num pre.length)
   rw [hy] at hsl
   obtain ⟨s, e⟩ := y
   dsimp only at he WP hC hsl
   subst he
   clear hy hy2
   unfold CS.step at WP
   obtain ⟨hb1, hb2, hb3⟩ := hq
   have hb4 := hb1.stamp
   have hb5 := hsl.stamp
   have hb6 := hsl.most
   generalize csTo D base num pre.length = a at *
   obtain ⟨sst, sls, sc, srt, smo⟩ := s
   obtain ⟨⟨bst, bls, bc, brt, bmo⟩, aot, amo⟩ := a
   dsimp only at *
   have h1w : (1 : Int) - (pre.length : Int) = ((1 - pre.length : Nat) : Int) := by omega
   have h2w : (pre.length : Int) + 1 = ((pre.length + 1 : Nat) : Int) := by omega
   have h3m : max ((amo : Nat) : Int) ((smo : Nat) : Int) = ((max amo smo : Nat) : Int) := by omega
   cases srt
   ·skip
    rw [if_neg (by simp)] at WP
    repeat' (first | refine zB ?_ | intro _)
    simp only [h2w, h3m]
    refine ZH [(l, .loop r')] ?_
    refine WH (Lu := cntC b4 b5 b6 b7 b8 ⟨bst, bls, bc, brt, bmo⟩ w0 aot 0 ((pre.length + 1 : Nat) : Int) (max amo smo)) rfl (Hp.le_refl _) ⟨hrec'.tmps.trans hrec.tmps, hrec'.params.trans hrec.params, hrec'.assign.trans hrec.assign, hrec'.body.trans hrec.body⟩ tk tk inferInstance ?_
    exact ⟨hl3, hno', w0, by rw [WP]; exact hC0, by rw [WP]⟩
   ·cases brt
    ·skip
     rw [if_pos (by simp)] at WP
     repeat' (first | refine zB ?_ | intro _)
     refine tpA [0,1,2] (.e 3 [] (.e 4 [] .o)) ([[(b9, .cells ⟨slV ⟨sst, sls, sc, true, smo⟩ w⟩ 268 (0, 0))], [(b7, .cells ⟨[.int .i64 (pre.length : Nat)]⟩ 3 (0, 0))]]) ?_
     repeat' (refine iT ?_; first | refine rA ?_ | ((refine iE ?_; refine rE ?_) <;> ((try refine Zn ?_); (first | (refine Yj ?_; try intro _)) <;> ((try simp only [kA]); refine Zi ?_; refine rN ?_))))
     all_goals (repeat' (first | refine zB ?_ | intro _))
     all_goals simp only [h1w, h2w, h3m]
     all_goals refine ZH [(l, .loop r')] ?_
     all_goals refine WH (Lu := cntC b4 b5 b6 b7 b8 ⟨sst, sls, sc, true, smo⟩ w ((1 - pre.length : Nat) : Int) 0 ((pre.length + 1 : Nat) : Int) (max amo smo)) rfl (Hp.le_refl _) ⟨hrec'.tmps.trans hrec.tmps, hrec'.params.trans hrec.params, hrec'.assign.trans hrec.assign, hrec'.body.trans hrec.body⟩ tk tk inferInstance ?_
     all_goals exact ⟨hl3, hno', w, by rw [WP]; exact hC, by rw [WP]⟩
    ·by_cases hlt2 : bst < sst
     ·have hlt3 : ((bst : Nat) : Int) < ((sst : Nat) : Int) := by omega
      rw [if_pos (⟨rfl, .inr hlt2⟩)] at WP
      repeat' (first | refine zB ?_ | intro _)
      refine tpA [0,1,2] (.e 3 [] (.e 4 [] .o)) ([[(b9, .cells ⟨slV ⟨sst, sls, sc, true, smo⟩ w⟩ 268 (0, 0))], [(b7, .cells ⟨[.int .i64 (pre.length : Nat)]⟩ 3 (0, 0))]]) ?_
      repeat' (refine iT ?_; first | refine rA ?_ | ((refine iE ?_; refine rE ?_) <;> ((try refine Zn ?_); (first | (refine Yj ?_; try intro _)) <;> ((try simp only [kA]); refine Zi ?_; refine rN ?_))))
      all_goals (repeat' (first | refine zB ?_ | intro _))
      all_goals simp only [h1w, h2w, h3m]
      all_goals refine ZH [(l, .loop r')] ?_
      all_goals refine WH (Lu := cntC b4 b5 b6 b7 b8 ⟨sst, sls, sc, true, smo⟩ w ((1 - pre.length : Nat) : Int) 0 ((pre.length + 1 : Nat) : Int) (max amo smo)) rfl (Hp.le_refl _) ⟨hrec'.tmps.trans hrec.tmps, hrec'.params.trans hrec.params, hrec'.assign.trans hrec.assign, hrec'.body.trans hrec.body⟩ tk tk inferInstance ?_
      all_goals exact ⟨hl3, hno', w, by rw [WP]; exact hC, by rw [WP]⟩
     ·have hlt3 : ¬ ((bst : Nat) : Int) < ((sst : Nat) : Int) := by omega
      rw [if_neg (by simp; omega)] at WP
      repeat' (first | refine zB ?_ | intro _)
      simp only [h2w, h3m]
      refine ZH [(l, .loop r')] ?_
      refine WH (Lu := cntC b4 b5 b6 b7 b8 ⟨bst, bls, bc, true, bmo⟩ w0 aot 0 ((pre.length + 1 : Nat) : Int) (max amo smo)) rfl (Hp.le_refl _) ⟨hrec'.tmps.trans hrec.tmps, hrec'.params.trans hrec.params, hrec'.assign.trans hrec.assign, hrec'.body.trans hrec.body⟩ tk tk inferInstance ?_
      exact ⟨hl3, hno', w0, by rw [WP]; exact hC0, by rw [WP]⟩
  ·have hcb : (y.2 != 0) = true := by simpa using he
   have hcd : Zt D base num = ((zSl, 0), slD D base num (pre.length + 1), y.2) := by
    rw [hy2] at he ⊢
    unfold Zt
    rcases (show pre.length = 0 ∨ pre.length = 1 by omega) with h | h
    ·rw [h] at he ⊢; rw [if_pos he]; rfl
    ·rw [h] at he ⊢; rw [if_neg (by have := hno 0 (by omega); simp [this]), if_pos he]; rfl
   repeat' (first | refine zB ?_ | intro _)
   refine ZH [(l, .loop r')] ?_
   refine te_leave (Lu := cntC b4 b5 b6 b7 b8 zSl zCV 0 y.2 pre.length (csTo D base num pre.length).most) rfl rfl (Hp.le_refl _) ⟨hrec'.tmps.trans hrec.tmps, hrec'.params.trans hrec.params, hrec'.assign.trans hrec.assign, hrec'.body.trans hrec.body⟩ tk tk inferInstance ?_
   exact ⟨rfl, hl3, _, _, y.2, he, hcd, rfl⟩
 case done =>
  rintro D0 ρ2 Lu hl2 ⟨hl3, hno, w, hC, rfl⟩
  have h0 : (slR D base num 0).2.2 = 0 := hno 0 (by unfold YF; split <;> simp)
  have hln := slotsX_len h0
  have h1 := hno 1 (by omega)
  have hcd : Zt D base num = (({ (csTo D base num 2).best with most := (csTo D base num 2).most }, (csTo D base num 2).other), slD D base num 2, 0) := by
   unfold Zt
   rw [if_neg (by simp [h0]), if_neg (by simp [h1])]
  rw [hln] at hC
  simp only [kA, hln]
  generalize csTo D base num 2 = a at *
  obtain ⟨⟨bst, bls, bc, brt, bmo⟩, aot, amo⟩ := a
  dsimp only at *
  have hfin := Hp.le_trans hl1 hl3
  repeat' (first | refine zB ?_ | intro _)
  refine tpA [] (.b 0 1 [] [] (.b 1 2 [] [] (.e 2 [] (.e 3 [] (.e 4 [] .o))) (.e 1 [] (.e 3 [] (.e 4 [] .o)))) (.e 0 [] (.e 2 [] (.e 3 [] (.e 4 [] .o))))) ([]) ?_
  repeat' (refine iT ?_; first | refine rA ?_ | ((first | (refine iE ?_; refine rE ?_) | (refine iB ?_; refine rB ?_ ?_)) <;> ((try refine Zn ?_); (first | (refine i_qq ?_; refine qQ ?_) | (refine Yj ?_; try intro _)) <;> ((try simp only [kA]); refine Zi ?_; refine rN ?_))))
  all_goals (repeat' (first | refine zB ?_ | intro _))
  all_goals refine ZH [(D0, .deferred (some []))] ?_
  all_goals rw [hcd]
  all_goals exact XD rfl rfl rfl inferInstance (WT rfl (ZO rfl rfl) (Zu rfl rfl) (Zu rfl rfl)) hfin tk (by infer_instance) (L' := Zk db k (slD D base num 2)) ⟨hfin, w, rfl, hC, slD_dok hD 2, rfl⟩
 case stop =>
  rintro D0 pre c ρ2 Lu hl2 ⟨rfl, hl3, which, most, e, he, hcd, rfl⟩
  simp only [kA]
  have hfin := Hp.le_trans hl1 hl3
  repeat' (first | refine zB ?_ | intro _)
  refine ZH [(D0, .deferred (some []))] ?_
  rw [hcd]
  exact XD rfl rfl rfl inferInstance (WT rfl (ZO rfl rfl) (Zu rfl rfl) (Zu rfl rfl)) hfin tk (by infer_instance) (L' := Zk db k (slD D base num pre.length)) ⟨hfin, zCV, rfl, CIn.nil, slD_dok hD _, rfl⟩
theorem row_spec (ρ0 ρ : Hp) (fb base : Nat) (g : Nat) (cs : List Value) (S : SH) (xs : List (Nat × Blk)) (hl0 : ρ0.le ρ) (hI : Iter Tryz.prog g [] cs pencV ρ0 S xs) [hF : ZJ Tryz.prog g] (h64 : ∀ p ∈ xs, p.2.length = 64) (b : Nat) (hf : FIn ρ fb b base) (k : DK) (D : DS) (hD : DOk k D) :
  Spec Tryz.prog 197 [.pointer (some ⟨fb, 0, none⟩), .func (.func g) ⟨[]⟩ ⟨cs⟩] ρ (S ++ Zk b k D) (fun v ρ' L' => v = .int .i64 (DS.lays xs D).2 ∧ ρ.le ρ' ∧ ∃ k', DOk k' (DS.lays xs D).1 ∧ L' = S ++ Zk b k' (DS.lays xs D).1) := by
 refine Za Tryz.func197 rfl rfl rfl fun u R => ?_
 simp only [Zg, kA, List.append_assoc]
 repeat' (first | refine zB ?_ | intro _)
 rename_i b2 b4
 refine Vh (S := S) (L0 := [[(b2, .cells ⟨[.pointer (some ⟨fb, 0, none⟩)]⟩ 82 (0, 0))], [(b4, .cells ⟨[.int .i64 0]⟩ 27 (0, 0))]] ++ Zk b k D) (R := R) (R0 := [(b4, .cells ⟨[.int .i64 0]⟩ 27 (0, 0))] :: [(b2, .cells ⟨[.pointer (some ⟨fb, 0, none⟩)]⟩ 82 (0, 0))] :: (Zk b k D ++ R)) rfl rfl hI hl0 (fun _ => rfl) rfl
  (fun pre ρ1 Lu => ∃ D1 k1, ρ.le ρ1 ∧ Wr D pre D1 ∧ DOk k1 D1 ∧ Lu = [[(b2, .cells ⟨[.pointer (some ⟨fb, 0, none⟩)]⟩ 82 (0, 0))], [(b4, .cells ⟨[.int .i64 0]⟩ 27 (0, 0))]] ++ Zk b k1 D1)
  (fun c ρ1 Lu => c = .exit 0 ∧ ∃ D2 k2 e, ρ.le ρ1 ∧ e ≠ 0 ∧ DS.lays xs D = (D2, e) ∧ DOk k2 D2 ∧ Lu = [[(b2, .cells ⟨[.pointer (some ⟨fb, 0, none⟩)]⟩ 82 (0, 0))], [(b4, .cells ⟨[.int .i64 e]⟩ 27 (0, 0))]] ++ Zk b k2 D2) ?k1 ?k2 ⟨D, k, Hp.le_refl _, .nil, hD, rfl⟩ ?round ?done ?stop
 case k1 => exact tk
 case k2 => exact tk
 case round =>
  rintro l tm r pre y ρ1 Lu u R' hpre hl1 ⟨D1, k1, hl2, hwr, hD1, rfl⟩ hr hrec
  simp only [envP, kA]
  have hm64 := h64 y (hpre.subset (by simp))
  have hy1 := ZY y.2
  have hyl : (y.2.map Zr).length = 64 := by simpa using hm64
  repeat' (first | refine zB ?_ | intro _)
  refine ZH [(l, .loop r)] ?_
  refine te_begin rfl hr (fun r' hbz hrec' => ?_)
  rename_i b7
  have hfile := (hf.mono hl2).at'
  repeat' (first | refine zB ?_ | intro _)
  by_cases hc : (D1.write (y.1 : Int) y.2).2 = 0
  ·have hcb : ((D1.write (y.1 : Int) y.2).2 != 0) = false := by simpa using hc
   have hw2 := hwr.snoc hc
   refine tpA [0,1,2,3,4,5] (.e 6 [] (.e 7 [] .o)) ([[(b2, .cells ⟨[.pointer (some ⟨fb, 0, none⟩)]⟩ 82 (0, 0))], [(b7, .cells ⟨y.2.map Zr⟩ 157 (0, 0))]]) ?_
   repeat' (refine iT ?_; first | refine rA ?_ | ((refine iE ?_; refine rE ?_) <;> ((try refine Zn ?_); (first | (refine Zb (.func 162) ?_; refine qC rfl rfl (kwrite _ b k1 D1 y.1 y.2 hm64 hD1) ?_; rintro v ρ' L' hle ⟨rfl, rfl, k2, hD2, rfl⟩ <;> (try simp only [kA])) | (refine Yj ?_; try intro _)) <;> ((try simp only [kA]); refine Zi ?_; refine rN ?_))))
   simp only [hc]
   repeat' (first | refine zB ?_ | intro _)
   refine ZH [(l, .loop r')] ?_
   refine WH (Lu := [[(b2, .cells ⟨[.pointer (some ⟨fb, 0, none⟩)]⟩ 82 (0, 0))], [(b4, .cells ⟨[.int .i64 0]⟩ 27 (0, 0))]] ++ Zk b k2 (D1.write (y.1 : Int) y.2).1) rfl (Hp.le_refl _) ⟨hrec'.tmps.trans hrec.tmps, hrec'.params.trans hrec.params, hrec'.assign.trans hrec.assign, hrec'.body.trans hrec.body⟩ tk tk inferInstance ?_
   exact ⟨_, k2, hl2, hw2, hD2, rfl⟩
  ·have hcb : ((D1.write (y.1 : Int) y.2).2 != 0) = true := by simpa using hc
   have hst := hwr.stop hpre hc
   refine tpA [0,1,2,3,4,5] (.e 6 [] (.e 7 [] .o)) ([[(b2, .cells ⟨[.pointer (some ⟨fb, 0, none⟩)]⟩ 82 (0, 0))], [(b7, .cells ⟨y.2.map Zr⟩ 157 (0, 0))]]) ?_
   repeat' (refine iT ?_; first | refine rA ?_ | ((refine iE ?_; refine rE ?_) <;> ((try refine Zn ?_); (first | (refine Zb (.func 162) ?_; refine qC rfl rfl (kwrite _ b k1 D1 y.1 y.2 hm64 hD1) ?_; rintro v ρ' L' hle ⟨rfl, rfl, k2, hD2, rfl⟩ <;> (try simp only [kA])) | (refine Yj ?_; try intro _)) <;> ((try simp only [kA]); refine Zi ?_; refine rN ?_))))
   repeat' (first | refine zB ?_ | intro _)
   refine ZH [(l, .loop r')] ?_
   refine te_leave (Lu := [[(b2, .cells ⟨[.pointer (some ⟨fb, 0, none⟩)]⟩ 82 (0, 0))], [(b4, .cells ⟨[.int .i64 (D1.write (y.1 : Int) y.2).2]⟩ 27 (0, 0))]] ++ Zk b k2 (D1.write (y.1 : Int) y.2).1) rfl rfl (Hp.le_refl _) ⟨hrec'.tmps.trans hrec.tmps, hrec'.params.trans hrec.params, hrec'.assign.trans hrec.assign, hrec'.body.trans hrec.body⟩ tk tk inferInstance ?_
   exact ⟨rfl, _, k2, _, hl2, hc, hst, hD2, rfl⟩
 case done =>
  rintro D0 ρ1 Lu hl1 ⟨D1, k1, hl2, hwr, hD1, rfl⟩
  simp only [kA]
  have hlay := hwr.lays []
  rw [List.append_nil, DS.lays] at hlay
  rw [hlay]
  have hfile := (hf.mono hl2).at'
  repeat' (first | (refine Zb (.func 163) ?_; refine qC rfl rfl (ksync _ b k1 D1 hD1) ?_; rintro v ρ' L' hle ⟨rfl, hl3, k2, hD2, rfl⟩ <;> (try simp only [kA])) | refine zB ?_ | intro _)
  refine ZH [(D0, .deferred (some []))] ?_
  exact XD rfl rfl rfl inferInstance (res1 rfl (ZW rfl)) (Hp.le_trans hl2 hl3) tk (by infer_instance) (L' := S ++ Zk b k2 D1.sync.1) ⟨rfl, Hp.le_trans hl2 hl3, k2, hD2, rfl⟩
 case stop =>
  rintro D0 c ρ1 Lu hl1 ⟨rfl, D2, k2, e, hl2, he, hlay, hD2, rfl⟩
  simp only [kA]
  have heb : (e != 0) = true := by simpa using he
  rw [hlay]
  repeat' (first | refine zB ?_ | intro _)
  refine ZH [(D0, .deferred (some []))] ?_
  exact XD rfl rfl rfl inferInstance (res1 rfl (ZW rfl)) hl2 tk (by infer_instance) (L' := S ++ Zk b k2 D2) ⟨rfl, hl2, k2, hD2, rfl⟩
theorem page_spec (ρ : Hp) (num : Int) : Spec Tryz.prog 159 [.int .i64 num] ρ [] (fun v ρ' L' => v = .bool (decide (0 ≤ num ∧ num < 64)) ∧ ρ' = ρ ∧ L' = []) := by
 by_cases h0 : 0 ≤ num
 ·by_cases h1 : num < 64
  ·rw [decide_eq_true ⟨h0, h1⟩]
   refine Za Tryz.func159 rfl rfl rfl fun u R => ?_
   simp only [Zg, kA]
   repeat' (first | refine zB ?_ | intro _)
   exact qE (L' := []) ⟨rfl, rfl, rfl⟩
  ·rw [decide_eq_false (fun h => h1 h.2)]
   refine Za Tryz.func159 rfl rfl rfl fun u R => ?_
   simp only [Zg, kA]
   repeat' (first | refine zB ?_ | intro _)
   exact qE (L' := []) ⟨rfl, rfl, rfl⟩
 ·rw [decide_eq_false (fun h => h0 h.1)]
  refine Za Tryz.func159 rfl rfl rfl fun u R => ?_
  simp only [Zg, kA]
  repeat' (first | refine zB ?_ | intro _)
  exact qE (L' := []) ⟨rfl, rfl, rfl⟩
def OpenOk (D : DS) (base : Int) : Prop := 0 ≤ base ∧ base + 256 ≤ D.secs.length
instance (D : DS) (base : Int) : Decidable (OpenOk D base) := by unfold OpenOk; infer_instance
theorem openf_spec (ρ : Hp) (db : Nat) (k : DK) (D : DS) (hD : DOk k D) (base : Nat) (h : base + 256 ≤ D.secs.length) :
  Spec Tryz.prog 161 [.pointer (some ⟨db, 0, none⟩), .int .i64 base] ρ (Zk db k D) (fun v ρ' L' => ρ.le ρ' ∧ ∃ fb, v = .tuple ⟨[.pointer (some ⟨fb, 0, none⟩), .int .i64 0]⟩ ∧ FIn ρ' fb db base ∧ L' = Zk db k D) := by
 have hln := hD.ok.secs.len
 refine Za Tryz.func161 rfl rfl rfl fun u R => ?_
 simp only [Zg, kA]
 repeat' (first | (refine Zb (.func 73) ?_; refine qR rfl rfl (klen _ db k D) ?_; try simp only [kA]) | refine zB ?_ | intro _)
 rename_i fb
 refine YG [(fb, .cells ⟨[.pointer (some ⟨db, 0, none⟩), .int .i64 base]⟩ 330 (0, 0))] (h := by infer_instance) (fun ρ1 hl1 hf1 => ?_)
 have h1 := hf1 _ (List.mem_singleton.2 rfl)
 have hF : FIn ρ1 fb db base := ⟨h1⟩
 exact qE (L' := Zk db k D) ⟨hl1, fb, rfl, hF, rfl⟩
theorem Open_spec (ρ : Hp) (db : Nat) (k : DK) (D : DS) (hD : DOk k D) (base : Nat) (h : base + 256 ≤ D.secs.length) :
  Spec Tryz.prog 72 [.pointer (some ⟨db, 0, none⟩), .int .i64 base] ρ (Zk db k D) (fun v ρ' L' => ρ.le ρ' ∧ ∃ fb, v = .tuple ⟨[.pointer (some ⟨fb, 0, none⟩), .int .i64 0]⟩ ∧ FIn ρ' fb db base ∧ L' = Zk db k D) := by
 refine Za Tryz.func72 rfl rfl rfl fun u R => ?_
 simp only [Zg, kA]
 repeat' (first | (refine Zb (.func 161) ?_; refine qC rfl rfl (openf_spec _ db k D hD base h) ?_; rintro v1 ρ1 L1 hle1 ⟨hl1, fb, rfl, hF, rfl⟩; try simp only [kA]) | refine zB ?_ | intro _)
 exact qE (L' := Zk db k D) ⟨hl1, fb, rfl, hF, rfl⟩
def XR (base : Nat) : List (Nat × Blk) := (List.range 256).map fun i => (base + i, YQ)
theorem noughtsF_64 {n : Nat} : ∀ p ∈ XR n, p.2.length = 64 := fun p hp => by
 simp only [XR, List.mem_map] at hp
 obtain ⟨k, _, rfl⟩ := hp; rfl
def XV (D : DS) (base num : Nat) : (Yi × Nat × Int) × DS :=
 if (Zt D base num).2.2 ≠ 0 ∨ (Zt D base num).1.1.right = false then ((⟨0, [], []⟩, 0, (Zt D base num).2.2), (Zt D base num).2.1)
 else (((Zt D base num).1.1.c, (Zt D base num).1.1.lsn, 0), (Zt D base num).2.1)
theorem Read_spec (ρ : Hp) (fb db base num : Nat) (hf : FIn ρ fb db base) (hb : base ≤ 100000) (hn : num < 64) (k : DK) (D : DS) (hD : DOk k D) :
  Spec Tryz.prog 71 [.pointer (some ⟨fb, 0, none⟩), .int .i64 num] ρ (Zk db k D) (fun v ρ' L' => ρ.le ρ' ∧ ∃ w, v = .tuple ⟨[.agg ⟨Xo (XV D base num).1.1.kind w⟩, .int .u64 ((XV D base num).1.2.1 : Nat), .int .i64 (XV D base num).1.2.2]⟩ ∧ CIn ρ' w (XV D base num).1.1.rows (XV D base num).1.1.kids ∧ DOk k (XV D base num).2 ∧ L' = Zk db k (XV D base num).2) := by
 have hp := page_spec ρ num
 rw [decide_eq_true ⟨by omega, by omega⟩] at hp
 have hcn := fcounts_spec ρ fb db base num hf hb hn k D hD
 have hR : XV D base num = if (Zt D base num).2.2 ≠ 0 ∨ (Zt D base num).1.1.right = false then ((⟨0, [], []⟩, 0, (Zt D base num).2.2), (Zt D base num).2.1)
  else (((Zt D base num).1.1.c, (Zt D base num).1.1.lsn, 0), (Zt D base num).2.1) := rfl
 generalize XV D base num = RES at *
 generalize Zt D base num = r at *
 obtain ⟨⟨⟨st, ls, c, rt, mo⟩, ot⟩, D', ec⟩ := r
 dsimp only at hR hcn
 refine Za Tryz.func71 rfl rfl rfl fun u R => ?_
 simp only [Zg, kA]
 by_cases he : ec = 0
 ·subst he
  cases rt with
  | true =>
   rw [if_neg (by simp)] at hR
   subst hR
   repeat' (first | (refine Zb (.func 159) ?_; refine qR rfl rfl (hp) ?_; try simp only [kA]) | (refine Zb (.func 160) ?_; refine qC rfl rfl hcn ?_; rintro v2 ρ2 L2 hle2 ⟨hl2, w, rfl, hC, hD2, rfl⟩; try simp only [kA]) | refine zB ?_ | intro _)
   rename_i b4 b7
   refine tpA [0,1,2,3] (.e 4 [] (.f [5,6] .o)) ([[(b7, .cells ⟨slV ⟨st, ls, c, true, mo⟩ w⟩ 268 (0, 0))]]) ?_
   repeat' (refine iT ?_; first | refine rA ?_ | ((refine iE ?_; refine rE ?_) <;> ((try refine Zn ?_); (first | (refine Yj ?_; try intro _)) <;> ((try simp only [kA]); refine Zi ?_; refine rN ?_))))
   all_goals (repeat' (first | refine zB ?_ | intro _))
   all_goals exact qE (L' := Zk db k D') ⟨hl2, w, rfl, hC, hD2, rfl⟩
  | false =>
   rw [if_pos (.inr rfl)] at hR
   subst hR
   repeat' (first | (refine Zb (.func 159) ?_; refine qR rfl rfl (hp) ?_; try simp only [kA]) | (refine Zb (.func 160) ?_; refine qC rfl rfl hcn ?_; rintro v2 ρ2 L2 hle2 ⟨hl2, w, rfl, hC, hD2, rfl⟩; try simp only [kA]) | refine zB ?_ | intro _)
   exact qE (L' := Zk db k D') ⟨hl2, zCV, rfl, CIn.nil, hD2, rfl⟩
 ·have hcb : (ec != 0) = true := by simpa using he
  rw [if_pos (.inl he)] at hR
  subst hR
  repeat' (first | (refine Zb (.func 159) ?_; refine qR rfl rfl (hp) ?_; try simp only [kA]) | (refine Zb (.func 160) ?_; refine qC rfl rfl hcn ?_; rintro v2 ρ2 L2 hle2 ⟨hl2, w, rfl, hC, hD2, rfl⟩; try simp only [kA]) | refine zB ?_ | intro _)
  exact qE (L' := Zk db k D') ⟨hl2, zCV, rfl, CIn.nil, hD2, rfl⟩
def YH (ix : Nat) (a b : Blk) : List (Nat × Blk) := [(ix, a), (ix + 1, b)]
abbrev wS (b1 b2 b3 b4 fb num other : Nat) (a b : Blk) : SH := [[(b1, .cells ⟨(a ++ b).map Zr⟩ 278 (0, 0))], [(b2, .cells ⟨[.pointer (some ⟨fb, 0, none⟩)]⟩ 82 (0, 0))], [(b3, .cells ⟨[.int .i64 num]⟩ 3 (0, 0))], [(b4, .cells ⟨[.int .i64 other]⟩ 3 (0, 0))]]
theorem write_iter (ρ0 : Hp) (b1 b2 b3 b4 fb db base num other : Nat) (a b : Blk) (ha : a.length = 64) (hb : b.length = 64) (hf : FIn ρ0 fb db base) (hbase : base ≤ 100000) (hn : num < 64) (ho : other < 2) :
  Iter Tryz.prog 198 [] [.pointer (some ⟨b1, 0, none⟩), .pointer (some ⟨b2, 0, none⟩), .pointer (some ⟨b3, 0, none⟩), .pointer (some ⟨b4, 0, none⟩)] pencV ρ0 (wS b1 b2 b3 b4 fb num other a b) (YH (base + 4 * num + 2 * other) a b) := by
 intro l J Jx hY ρ Lj hl0 hJ
 have hat := fun ρ (h : FIn ρ fb db base) => at14_spec ρ fb db base num other h hbase hn ho
 have hix0 : base + 4 * num + 2 * other ≤ 200000 := by omega
 generalize base + 4 * num + 2 * other = ix at *
 have hab : ((a ++ b).map Zr).length = 128 := by simp [ha, hb]
 have hone := ZY (a ++ b)
 have hld : List.take 128 (List.drop 0 ((a ++ b).map Zr)) = (a ++ b).map Zr := by rw [List.drop_zero, List.take_of_length_le (by omega)]
 refine Za Tryz.func198 rfl rfl rfl fun u R => ?_
 simp only [Zg, kA, List.append_assoc]
 repeat' (first | refine zB ?_ | intro _)
 refine Zl [(0, _), (2, _), (3, _), (4, _), (8, _)] (fun (ζ : (Nat) × (Hp) × (SH)) => [(9, .int .i64 ζ.1)]) (fun (ζ : (Nat) × (Hp) × (SH)) => ζ.2.1) (fun (ζ : (Nat) × (Hp) × (SH)) => wS b1 b2 b3 b4 fb num other a b ++ ζ.2.2) (fun (ζ : (Nat) × (Hp) × (SH)) => ζ.1 ≤ 2 ∧ ρ.le ζ.2.1 ∧ J ((YH ix a b).take ζ.1) ζ.2.1 ζ.2.2) (fun (ζ : (Nat) × (Hp) × (SH)) => 2 - ζ.1) ((0, ρ, Lj)) (⟨Nat.zero_le _, Hp.le_refl _, hJ⟩) Zc Zc rfl tk ?_
 rintro ⟨i, ρ1, L1⟩ hI
 try simp only [kA, List.append_assoc] at hI ⊢
 try dsimp only at hI ⊢
 obtain ⟨hi, hle1, hj⟩ := hI
 by_cases hlt : i < 2
 ·obtain ⟨blk, hbl, hix, hpw⟩ : ∃ blk : Blk, blk.length = 64 ∧ (((a ++ b).map Zr).drop (i * 64)).take 64 = blk.map Zr ∧ (YH ix a b).take (i + 1) = (YH ix a b).take i ++ [(ix + i, blk)] := by
   rcases (show i = 0 ∨ i = 1 by omega) with rfl | rfl
   ·refine ⟨a, ha, ?_, rfl⟩
    rw [List.map_append, Nat.zero_mul, List.drop_zero, List.take_left' (by simpa using ha)]
   ·refine ⟨b, hb, ?_, rfl⟩
    rw [List.map_append, Nat.one_mul, List.drop_left' (by simpa using ha), List.take_of_length_le (by simp; omega)]
  have hb64 : (blk.map Zr).length = 64 := by simpa using hbl
  have hbo := ZY blk
  have hpre : (YH ix a b).take i ++ [(ix + i, blk)] <+: YH ix a b := by rw [← hpw]; exact List.take_prefix _ _
  have hf1 := hf.mono (Hp.le_trans hl0 hle1)
  have hy := hY _ _ ρ1 L1 hpre (Hp.le_trans hl0 hle1) hj
  have hii : (ix : Int) + (i : Int) = ((ix + i : Nat) : Int) := by omega
  repeat' (first | (refine tl_y (y_index_a rfl rfl hlt hix) rfl rfl ?_) | refine zB ?_ | intro _)
  rename_i b7
  refine tpA [0,1,2,3,5,7] (.e 4 [6] (.e 8 [] (.f [9] .o))) ([[(b2, .cells ⟨[.pointer (some ⟨fb, 0, none⟩)]⟩ 82 (0, 0))], [(b3, .cells ⟨[.int .i64 num]⟩ 3 (0, 0))], [(b4, .cells ⟨[.int .i64 other]⟩ 3 (0, 0))], [(b7, .cells ⟨blk.map Zr⟩ 157 (0, 0))]]) ?_
  repeat' (refine iT ?_; first | refine rA ?_ | ((refine iE ?_; refine rE ?_) <;> ((try refine Zn ?_); (first | (refine Zb (.func 199) ?_; refine qC rfl rfl ((hat _ hf1)) ?_; rintro v ρ' L' hle ⟨rfl, rfl, rfl⟩ <;> (try simp only [kA])) | (simp only [hii]; refine Zb (.tmp 13) ?_; refine qY rfl rfl hy ?_; rintro v ρ' L' hle ⟨Lj', rfl, ⟨rfl, hj'⟩ | ⟨rfl, hj'⟩⟩ <;> (try simp only [kA, List.append_assoc])) | (refine Yj ?_; try intro _)) <;> ((try simp only [kA]); refine Zi ?_; refine rN ?_))))
  ·repeat' (first | refine zB ?_ | intro _)
   refine Zf (i + 1, ρ', Lj') (⟨hlt, Hp.le_trans hle1 hle, by dsimp only; rw [hpw]; exact hj'⟩) Zc Zc rfl tk inferInstance (by first | omega | (dsimp only; omega))
  ·repeat' (first | refine zB ?_ | intro _)
   exact qE (L' := wS b1 b2 b3 b4 fb num other a b ++ Lj') ⟨Lj', rfl, .inr hj'⟩
 ·have h2 : i = 2 := by omega
  subst h2
  repeat' (first | refine zB ?_ | intro _)
  exact qE (L' := wS b1 b2 b3 b4 fb num other a b ++ L1) ⟨L1, rfl, .inl hj⟩
def Xt (D : DS) (base num lsn : Nat) (c : Yi) : DS × Int :=
 if (Zt D base num).2.2 ≠ 0 then (Zt D base num).2
 else if (Zt D base num).1.1.most = 18446744073709551615 then ((Zt D base num).2.1, 6)
 else DS.lays (YH (base + 4 * num + 2 * (Zt D base num).1.2) (ZD num ((Zt D base num).1.1.most + 1) lsn c 0) (ZD num ((Zt D base num).1.1.most + 1) lsn c 1)) (Zt D base num).2.1
theorem countsD_lt (D : DS) (base num : Nat) : (Zt D base num).1.1.most < 18446744073709551616 ∧ (Zt D base num).1.2 < 2 := by
 unfold Zt
 split
 ·exact ⟨by show (0 : Nat) < _; omega, by show (0 : Nat) < 2; omega⟩
 ·split
  ·exact ⟨by show (0 : Nat) < _; omega, by show (0 : Nat) < 2; omega⟩
  ·exact ⟨(csTo_lt D base num 2).2.1, (csTo_lt D base num 2).2.2⟩
theorem Write_spec (ρ : Hp) (fb db base num lsn : Nat) (hf : FIn ρ fb db base) (hb : base ≤ 100000) (hn : num < 64) (hls : lsn < 18446744073709551616) (c : Yi) (w : CV) (hC : CIn ρ w c.rows c.kids) (hok : ZB c = true) (hir : ∀ r ∈ c.rows, r.id < 65536) (hik : ∀ k ∈ c.kids, k.id < 65536) (k : DK) (D : DS) (hD : DOk k D) :
  Spec Tryz.prog 119 [.pointer (some ⟨fb, 0, none⟩), .int .i64 num, .int .u64 lsn, .agg ⟨Xo c.kind w⟩] ρ (Zk db k D) (fun v ρ' L' => v = .int .i64 (Xt D base num lsn c).2 ∧ ρ.le ρ' ∧ ∃ k', DOk k' (Xt D base num lsn c).1 ∧ L' = Zk db k' (Xt D base num lsn c).1) := by
 have hp := page_spec ρ num
 rw [decide_eq_true ⟨by omega, by omega⟩] at hp
 have hck := XC ρ w c hC
 rw [hok] at hck
 simp only [if_true] at hck
 have hcn := fcounts_spec ρ fb db base num hf hb hn k D hD
 have hclt := countsD_lt D base num
 have hR : Xt D base num lsn c = if (Zt D base num).2.2 ≠ 0 then (Zt D base num).2
  else if (Zt D base num).1.1.most = 18446744073709551615 then ((Zt D base num).2.1, 6)
  else DS.lays (YH (base + 4 * num + 2 * (Zt D base num).1.2) (ZD num ((Zt D base num).1.1.most + 1) lsn c 0) (ZD num ((Zt D base num).1.1.most + 1) lsn c 1)) (Zt D base num).2.1 := rfl
 generalize Xt D base num lsn c = RES at *
 generalize Zt D base num = r at *
 obtain ⟨⟨⟨st, ls, c0, rt, mo⟩, ot⟩, D', ec⟩ := r
 dsimp only at hR hcn hclt
 refine Za Tryz.func119 rfl rfl rfl fun u R => ?_
 simp only [Zg, kA]
 by_cases he : ec = 0
 ·subst he
  rw [if_neg (by simp)] at hR
  by_cases hmo : mo = 18446744073709551615
  ·rw [if_pos hmo] at hR
   subst hR
   have hmo' : ((mo : Nat) : Int) = 18446744073709551615 := by omega
   repeat' (first | (refine Zb (.func 159) ?_; refine qC rfl rfl (hp) ?_; rintro v ρ' L' hle ⟨rfl, rfl, rfl⟩ <;> (try simp only [kA])) | (refine Zb (.func 195) ?_; refine qC rfl rfl (hck) ?_; rintro v ρ' L' hle ⟨rfl, rfl, rfl⟩ <;> (try simp only [kA])) | (refine Zb (.func 160) ?_; refine qC rfl rfl hcn ?_; rintro v2 ρ2 L2 hle2 ⟨hl2, w2, rfl, hC2, hD2, rfl⟩; try simp only [kA]) | refine zB ?_ | intro _)
   exact qE (L' := Zk db k D') ⟨rfl, hl2, k, hD2, rfl⟩
  ·rw [if_neg hmo] at hR
   have hmo' : ¬ ((mo : Nat) : Int) = 18446744073709551615 := by omega
   have hm1 : ((mo : Nat) : Int) + 1 = ((mo + 1 : Nat) : Int) := by omega
   have hmlt : mo + 1 < 18446744073709551616 := by omega
   repeat' (first | (refine Zb (.func 159) ?_; refine qC rfl rfl (hp) ?_; rintro v ρ' L' hle ⟨rfl, rfl, rfl⟩ <;> (try simp only [kA])) | (refine Zb (.func 195) ?_; refine qC rfl rfl (hck) ?_; rintro v ρ' L' hle ⟨rfl, rfl, rfl⟩ <;> (try simp only [kA])) | (refine Zb (.func 160) ?_; refine qC rfl rfl hcn ?_; rintro v2 ρ2 L2 hle2 ⟨hl2, w2, rfl, hC2, hD2, rfl⟩; try simp only [kA]) | (refine tl_y (Vj (vs := [.int .u64 ((mo + 1 : Nat) : Int), .int .u64 lsn, .agg ⟨Xo c.kind w⟩]) (cells := ⟨slV ⟨mo + 1, lsn, c, false, 0⟩ w⟩) rfl rfl) rfl rfl ?_) | refine zB ?_ | intro _)
   repeat' (first | (refine Zb (.func 196) ?_; refine qC rfl rfl (parts_spec _ num hn ⟨mo + 1, lsn, c, false, 0⟩ w (hC.mono hl2) hok hir hik hmlt hls) ?_; rintro v5 ρ5 L5 hle5 ⟨rfl, hl5, rfl⟩; dsimp only; have hP0 := YY num (mo + 1) lsn c (i := 0) (by omega); have hP1 := YY num (mo + 1) lsn c (i := 1) (by omega); have hPo := ZY (ZD num (mo + 1) lsn c 0 ++ ZD num (mo + 1) lsn c 1); have hPl : ((ZD num (mo + 1) lsn c 0 ++ ZD num (mo + 1) lsn c 1).map Zr).length = 128 := (by simp [hP0, hP1]); try simp only [kA]) | refine zB ?_ | intro _)
   rename_i b4 b5 b7 hq b10 b11 b13
   have hf5 := hf.mono (Hp.le_trans hl2 hl5)
   have h64 : ∀ p ∈ YH (base + 4 * num + 2 * ot) (ZD num (mo + 1) lsn c 0) (ZD num (mo + 1) lsn c 1), p.2.length = 64 := fun p hp => by
    simp only [YH, List.mem_cons, List.not_mem_nil, or_false] at hp
    rcases hp with rfl | rfl
    ·exact hP0
    ·exact hP1
   repeat' (first | (refine Zb (.func 197) ?_; refine qC rfl rfl (row_spec _ _ fb base 198 [.pointer (some ⟨b13, 0, none⟩), .pointer (some ⟨b4, 0, none⟩), .pointer (some ⟨b5, 0, none⟩), .pointer (some ⟨b11, 0, none⟩)] (wS b13 b4 b5 b11 fb num ot (ZD num (mo + 1) lsn c 0) (ZD num (mo + 1) lsn c 1)) _ (Hp.le_refl _) (write_iter _ b13 b4 b5 b11 fb db base num ot _ _ hP0 hP1 hf5 hb hn hclt.2) h64 db hf5 k D' hD2) ?_; rintro v6 ρ6 L6 hle6 ⟨rfl, hl6, k6, hD6, rfl⟩; simp only [kA, List.append_assoc]) | refine zB ?_ | intro _)
   subst hR
   have hfin := Hp.le_trans hl2 (Hp.le_trans hl5 hl6)
   exact qE (L' := Zk db k6 _) ⟨rfl, hfin, k6, hD6, rfl⟩
 ·have hcb : (ec != 0) = true := by simpa using he
  rw [if_pos he] at hR
  subst hR
  repeat' (first | (refine Zb (.func 159) ?_; refine qC rfl rfl (hp) ?_; rintro v ρ' L' hle ⟨rfl, rfl, rfl⟩ <;> (try simp only [kA])) | (refine Zb (.func 195) ?_; refine qC rfl rfl (hck) ?_; rintro v ρ' L' hle ⟨rfl, rfl, rfl⟩ <;> (try simp only [kA])) | (refine Zb (.func 160) ?_; refine qC rfl rfl hcn ?_; rintro v2 ρ2 L2 hle2 ⟨hl2, w2, rfl, hC2, hD2, rfl⟩; try simp only [kA]) | refine zB ?_ | intro _)
  exact qE (L' := Zk db k D') ⟨rfl, hl2, k, hD2, rfl⟩
end Go.Proofs.E
namespace Go.Proofs.E
open Go
set_option linter.unusedVariables false
set_option linter.unusedSimpArgs false
set_option linter.unusedSectionVars false
set_option maxRecDepth 4000
set_option maxHeartbeats 1000000
attribute [local irreducible] Yl TL TC TE Spec ZK R1 Hp.le EnvLe TS TR YS Zp
def M64 : Nat := 18446744073709551616
structure Fit (c : Yi) : Prop where
 ok : ZB c = true
 id : IdFit c
theorem dataB_eq {c : Yi} (h : ZB c = true) : dataB c = UInt8.ofNat (Yz c).length :: (Yz c ++ z8 (83 - (Yz c).length)) := by
 have := WO h
 unfold dataB
 rw [fit_lay (by simp; omega)]
 simp only [List.length_cons, List.cons_append]
 congr 3; omega
theorem data_halves (c : Yi) : ((dataB c).drop (42 * 0)).take 42 ++ ((dataB c).drop (42 * 1)).take 42 = dataB c := by
 have h := dataB_len c
 rw [Nat.mul_zero, List.drop_zero, List.take_of_length_le (l := (dataB c).drop (42 * 1)) (by simp; omega), List.take_append_drop]
theorem body_drop (num st lsn : Nat) (c : Yi) (i k : Nat) : (bodyF num st lsn c i).drop (2 + k) = (be 8 st ++ (be 8 lsn ++ ((dataB c).drop (42 * i)).take 42)).drop k := by
 unfold bodyF
 rw [Nat.add_comm, List.drop_succ_cons, List.drop_succ_cons]
theorem WK (num st lsn : Nat) (c : Yi) {i : Nat} (hi : i < 2) (hst : st < M64) : Xr (ZD num st lsn c i) = st := by
 have hb := bodyF_len num st lsn c hi
 unfold Xr ZD
 rw [List.drop_append_of_le_length (by omega), List.take_append_of_le_length (by simp; omega), show 2 = 2 + 0 from rfl, body_drop, List.drop_zero, List.take_left' (Zj _ _), Wx]
 exact Nat.mod_eq_of_lt (by simpa [M64] using hst)
theorem part_lsn (num st lsn : Nat) (c : Yi) {i : Nat} (hi : i < 2) (hl : lsn < M64) : Ye (((ZD num st lsn c i).drop 10).take 8) = lsn := by
 have hb := bodyF_len num st lsn c hi
 unfold ZD
 rw [List.drop_append_of_le_length (by omega), List.take_append_of_le_length (by simp; omega), show 10 = 2 + 8 from rfl, body_drop, List.drop_left' (Zj _ _), List.take_left' (Zj _ _), Wx]
 exact Nat.mod_eq_of_lt (by simpa [M64] using hl)
theorem part_data (num st lsn : Nat) (c : Yi) {i : Nat} (hi : i < 2) : ((ZD num st lsn c i).drop 18).take 42 = ((dataB c).drop (42 * i)).take 42 := by
 have hb := bodyF_len num st lsn c hi
 have hd := dataB_len c
 unfold ZD
 rw [List.drop_append_of_le_length (by omega), List.take_append_of_le_length (by simp; omega), show 18 = 2 + 16 from rfl, body_drop, ← List.append_assoc, List.drop_left' (by simp [Zj])]
 rw [List.take_of_length_le (by simp; omega)]
theorem part_ok (num st lsn : Nat) (c : Yi) {i : Nat} (hi : i < 2) (hn : num < 64) : PartOk num i (ZD num st lsn c i) := by
 have hb := bodyF_len num st lsn c hi
 refine ⟨?_, ?_, ?_⟩
 ·show (UInt8.ofNat num).toNat = num
  simp; omega
 ·show (UInt8.ofNat i).toNat = i
  simp; omega
 ·unfold ZD
  rw [List.drop_left' hb, List.take_left' hb, Wx]
  exact Nat.mod_eq_of_lt (by have := sumB_lt (bodyF num st lsn c i); simpa using this)
theorem says_part (num st lsn : Nat) (c : Yi) (hc : Fit c) (h0 : 0 < st) (hst : st < M64) (hl : lsn < M64) : Yb num (ZD num st lsn c 0) (ZD num st lsn c 1) = ⟨st, lsn, c, true, 0⟩ := by
 have hde := dataB_eq hc.ok
 have h82 := WO hc.ok
 have e0 : ((ZD num st lsn c 0).getD 18 0).toNat = (Yz c).length := by
  have h1 := part_data num st lsn c (i := 0) (by omega)
  rw [Nat.mul_zero, List.drop_zero, hde] at h1
  have h2 : ((ZD num st lsn c 0).drop 18).take 42 = ((ZD num st lsn c 0).drop 18).take 42 := rfl
  have h3 := congrArg (fun l : Bs => l[0]?) h1
  simp only [List.take_succ_cons, List.getElem?_cons_zero] at h3
  rw [List.getElem?_take_of_lt (by omega), List.getElem?_drop] at h3
  rw [List.getD_eq_getElem?_getD, h3]
  simp; omega
 have e1 : ((ZD num st lsn c 0).drop 18).take 42 ++ ((ZD num st lsn c 1).drop 18).take 42 = dataB c := by
  rw [part_data _ _ _ _ (by omega), part_data _ _ _ _ (by omega), data_halves]
 have e2 : ((dataB c).drop 1).take (Yz c).length = Yz c := by rw [hde, List.drop_succ_cons, List.drop_zero, List.take_left]
 have e3 := takeCont_back hc.ok hc.id []
 rw [List.append_nil] at e3
 have e4 : Ye (((ZD num st lsn c 0).drop 2).take 8) = st := WK num st lsn c (by omega) hst
 unfold Yb
 rw [e0, if_neg (by omega), e1, e2, e3, e4, part_lsn _ _ _ _ (by omega) hl]
 simp [h0]
theorem says_right {num : Nat} {a b : Blk} (ha : a.length = 64) (hb : b.length = 64) (h : (Yb num a b).right = true) : 0 < Xr a ∧ Xr b = Xr a ∧ (Yb num a b).stamp = Xr a := by
 have hlt := stampOf_lt a
 unfold Yb at h ⊢
 split
 ·rename_i hc; rw [if_pos hc] at h; cases h
 ·rename_i hc
  rw [if_neg hc] at h
  dsimp only at h ⊢
  have h' := of_decide_eq_true h
  obtain ⟨h1, h2, h3, h4⟩ := h'
  have hp0 := YY num (Ye ((a.drop 2).take 8)) (Ye ((a.drop 10).take 8)) (ZV ((((a.drop 18).take 42 ++ (b.drop 18).take 42).drop 1).take (a.getD 18 0).toNat)).1 (i := 0) (by omega)
  have hb1 := (List.append_inj h4 (by omega)).2
  refine ⟨h3, ?_, rfl⟩
  exact (congrArg Xr hb1).symm.trans (WK num _ _ _ (by decide) hlt)
theorem stamp_zblk : Xr YQ = 0 := by
 unfold Xr
 rw [zblk_z]
 simp only [z8, List.drop_replicate]
 exact z8_take _ _
def Sec (num i t : Nat) (b : Blk) : Prop := b = YQ ∨ ∃ st lsn c, 0 < st ∧ st ≤ t ∧ b = ZD num st lsn c i
theorem Sec.mono {num i t t' : Nat} {b : Blk} (h : Sec num i t b) (ht : t ≤ t') : Sec num i t' b := by
 rcases h with h | ⟨st, lsn, c, h1, h2, h3⟩
 ·exact .inl h
 ·exact .inr ⟨st, lsn, c, h1, by omega, h3⟩
theorem Sec.len {num i t : Nat} {b : Blk} (h : Sec num i t b) (hi : i < 2) : b.length = 64 := by
 rcases h with rfl | ⟨st, lsn, c, h1, h2, rfl⟩
 ·rfl
 ·exact YY _ _ _ _ hi
theorem Sec.stamp {num i t : Nat} {b : Blk} (h : Sec num i t b) (hi : i < 2) (hn : num < 64) (ht : t < M64) : stampR num i b = Xr b ∧ Xr b ≤ t := by
 rcases h with rfl | ⟨st, lsn, c, h1, h2, rfl⟩
 ·unfold stampR
  rw [stamp_zblk]
  exact ⟨by split <;> rfl, Nat.zero_le _⟩
 ·rw [WK num st lsn c hi (by omega)]
  exact ⟨by unfold stampR; rw [if_pos (part_ok num st lsn c hi hn), WK num st lsn c hi (by omega)], h2⟩
def cs2 (num : Nat) (a0 b0 a1 b1 : Blk) : CS := ((⟨zSl, 0, 0⟩ : CS).step 0 (slotAt num a0 b0)).step 1 (slotAt num a1 b1)
abbrev ZL := Yi × Nat
def zHeld : ZL := (⟨0, [], []⟩, 0)
def WJ (cs : CS) : ZL := if cs.best.right = true then (cs.best.c, cs.best.lsn) else zHeld
def sayH (num : Nat) (a b : Blk) : ZL := ((Yb num a b).c, (Yb num a b).lsn)
theorem cs2_eq (num : Nat) (a0 b0 a1 b1 : Blk) : WJ (cs2 num a0 b0 a1 b1) = (if (Yb num a0 b0).right = true then (if (Yb num a1 b1).right = true ∧ (Yb num a0 b0).stamp < (Yb num a1 b1).stamp then sayH num a1 b1 else sayH num a0 b0) else if (Yb num a1 b1).right = true then sayH num a1 b1 else zHeld) ∧
  (cs2 num a0 b0 a1 b1).other = (if (Yb num a0 b0).right = true then (if (Yb num a1 b1).right = true ∧ (Yb num a0 b0).stamp < (Yb num a1 b1).stamp then 0 else 1) else 0) ∧
  (cs2 num a0 b0 a1 b1).most = max (XY num a0 b0) (XY num a1 b1) := by
 unfold cs2 CS.step WJ sayH slotAt
 generalize XY num a0 b0 = m0
 generalize XY num a1 b1 = m1
 generalize Yb num a0 b0 = s0
 generalize Yb num a1 b1 = s1
 obtain ⟨st0, ls0, c0, r0, mo0⟩ := s0
 obtain ⟨st1, ls1, c1, r1, mo1⟩ := s1
 cases r0
 ·cases r1
  ·simp [zSl]
  ·simp [zSl]
 ·cases r1
  ·simp [zSl]
  ·by_cases hlt : st0 < st1
   ·simp [zSl, hlt]
   ·simp [zSl, hlt]
theorem mixed {num t lsn : Nat} {c : Yi} {a b x y : Blk} (hn : num < 64) (hc : Fit c) (hl : lsn < M64) (ht : t + 1 < M64) (ha : Sec num 0 t a) (hb : Sec num 1 t b)
  (hx : x = a ∨ x = ZD num (t + 1) lsn c 0) (hy : y = b ∨ y = ZD num (t + 1) lsn c 1) :
  (x = a ∧ y = b) ∨ (Yb num x y).right = false ∨ (Yb num x y = ⟨t + 1, lsn, c, true, 0⟩) := by
 have h1 := ha.stamp (by omega) hn (by omega)
 have h2 := hb.stamp (by omega) hn (by omega)
 have p0 := WK num (t + 1) lsn c (i := 0) (by omega) ht
 have p1 := WK num (t + 1) lsn c (i := 1) (by omega) ht
 rcases hx with rfl | rfl
 ·rcases hy with rfl | rfl
  ·exact .inl ⟨rfl, rfl⟩
  ·right; left
   cases hr : (Yb num x (ZD num (t + 1) lsn c 1)).right with
   | false => rfl
   | true =>
    have := says_right (ha.len (by omega)) (YY _ _ _ _ (by omega)) hr
    rw [p1] at this; omega
 ·rcases hy with rfl | rfl
  ·right; left
   cases hr : (Yb num (ZD num (t + 1) lsn c 0) y).right with
   | false => rfl
   | true =>
    have := says_right (YY _ _ _ _ (by omega)) (hb.len (by omega)) hr
    rw [p0] at this; omega
  ·exact .inr (.inr (says_part num (t + 1) lsn c hc (by omega) ht hl))
theorem stampsF_le {num t : Nat} {a b : Blk} (hn : num < 64) (ht : t < M64) (ha : Sec num 0 t a) (hb : Sec num 1 t b) : XY num a b ≤ t ∧ ((Yb num a b).right = true → (Yb num a b).stamp ≤ XY num a b) := by
 have h1 := ha.stamp (by omega) hn ht
 have h2 := hb.stamp (by omega) hn ht
 unfold XY
 rw [h1.1, h2.1]
 refine ⟨by omega, fun hr => ?_⟩
 have := says_right (ha.len (by omega)) (hb.len (by omega)) hr
 omega
theorem wrote {num mo lsn : Nat} {c : Yi} {a0 b0 a1 b1 x0 y0 x1 y1 : Blk} (hn : num < 64) (hc : Fit c) (hl : lsn < M64) (h0 : Sec num 0 mo a0) (h1 : Sec num 1 mo b0) (h2 : Sec num 0 mo a1) (h3 : Sec num 1 mo b1) (hmo : mo = (cs2 num a0 b0 a1 b1).most) (ht : mo + 1 < M64)
  (hx0 : x0 = a0 ∨ (cs2 num a0 b0 a1 b1).other = 0 ∧ x0 = ZD num (mo + 1) lsn c 0) (hy0 : y0 = b0 ∨ (cs2 num a0 b0 a1 b1).other = 0 ∧ y0 = ZD num (mo + 1) lsn c 1)
  (hx1 : x1 = a1 ∨ (cs2 num a0 b0 a1 b1).other = 1 ∧ x1 = ZD num (mo + 1) lsn c 0) (hy1 : y1 = b1 ∨ (cs2 num a0 b0 a1 b1).other = 1 ∧ y1 = ZD num (mo + 1) lsn c 1) :
  (WJ (cs2 num x0 y0 x1 y1) = WJ (cs2 num a0 b0 a1 b1) ∨ WJ (cs2 num x0 y0 x1 y1) = (c, lsn)) ∧
  ((if (cs2 num a0 b0 a1 b1).other = 0 then x0 = ZD num (mo + 1) lsn c 0 ∧ y0 = ZD num (mo + 1) lsn c 1 else x1 = ZD num (mo + 1) lsn c 0 ∧ y1 = ZD num (mo + 1) lsn c 1) → WJ (cs2 num x0 y0 x1 y1) = (c, lsn)) := by
 obtain ⟨e1, e2, e3⟩ := cs2_eq num a0 b0 a1 b1
 obtain ⟨f1, _, _⟩ := cs2_eq num x0 y0 x1 y1
 have g0 := stampsF_le hn (by omega) h0 h1
 have g1 := stampsF_le hn (by omega) h2 h3
 have hsp := says_part num (mo + 1) lsn c hc (by omega) ht hl
 rw [e3] at hmo
 have q0 : (Yb num a0 b0).right = true → (Yb num a0 b0).stamp ≤ mo := fun h => by have := g0.2 h; omega
 have q1 : (Yb num a1 b1).right = true → (Yb num a1 b1).stamp ≤ mo := fun h => by have := g1.2 h; omega
 by_cases ho : (cs2 num a0 b0 a1 b1).other = 0
 ·have hx1' : x1 = a1 := hx1.resolve_right (fun h => by omega)
  have hy1' : y1 = b1 := hy1.resolve_right (fun h => by omega)
  subst hx1'; subst hy1'
  rw [if_pos ho]
  have hnc : ¬ ((Yb num a0 b0).right = true ∧ ¬ ((Yb num x1 y1).right = true ∧ (Yb num a0 b0).stamp < (Yb num x1 y1).stamp)) := fun hh => by
   rw [e2, if_pos hh.1, if_neg hh.2] at ho; cases ho
  have hold : WJ (cs2 num a0 b0 x1 y1) = if (Yb num x1 y1).right = true then sayH num x1 y1 else zHeld := by
   rw [e1]
   by_cases hr : (Yb num a0 b0).right = true
   ·have hq : (Yb num x1 y1).right = true ∧ (Yb num a0 b0).stamp < (Yb num x1 y1).stamp := Classical.not_not.1 (fun h => hnc ⟨hr, h⟩)
    rw [if_pos hr, if_pos hq, if_pos hq.1]
   ·rw [if_neg hr]
  have hnew : Yb num x0 y0 = ⟨mo + 1, lsn, c, true, 0⟩ → WJ (cs2 num x0 y0 x1 y1) = (c, lsn) := fun he => by
   rw [f1, he, if_pos rfl, if_neg (fun hh => by have := q1 hh.1; have := hh.2; dsimp only at this; omega)]
   unfold sayH; rw [he]
  refine ⟨?_, fun hh => hnew (by rw [hh.1, hh.2]; exact hsp)⟩
  rcases mixed hn hc hl ht h0 h1 (hx0.imp id (·.2)) (hy0.imp id (·.2)) with ⟨rfl, rfl⟩ | hm | hm
  ·exact .inl rfl
  ·left
   rw [hold, f1, hm, if_neg (by simp)]
  ·exact .inr (hnew hm)
 ·have hx0' : x0 = a0 := hx0.resolve_right (fun h => ho h.1)
  have hy0' : y0 = b0 := hy0.resolve_right (fun h => ho h.1)
  subst hx0'; subst hy0'
  rw [if_neg ho]
  have hr : (Yb num x0 y0).right = true := Classical.not_not.1 (fun h => ho (by rw [e2, if_neg h]))
  have hnq : ¬ ((Yb num a1 b1).right = true ∧ (Yb num x0 y0).stamp < (Yb num a1 b1).stamp) := fun h => ho (by rw [e2, if_pos hr, if_pos h])
  have hold : WJ (cs2 num x0 y0 a1 b1) = sayH num x0 y0 := by rw [e1, if_pos hr, if_neg hnq]
  have hnew : Yb num x1 y1 = ⟨mo + 1, lsn, c, true, 0⟩ → WJ (cs2 num x0 y0 x1 y1) = (c, lsn) := fun he => by
   rw [f1, if_pos hr, he, if_pos ⟨rfl, by have := q0 hr; dsimp only; omega⟩]
   unfold sayH; rw [he]
  refine ⟨?_, fun hh => hnew (by rw [hh.1, hh.2]; exact hsp)⟩
  rcases mixed hn hc hl ht h2 h3 (hx1.imp id (·.2)) (hy1.imp id (·.2)) with ⟨rfl, rfl⟩ | hm | hm
  ·exact .inl rfl
  ·left
   rw [hold, f1, if_pos hr, hm, if_neg (by simp)]
  ·exact .inr (hnew hm)
end Go.Proofs.E
