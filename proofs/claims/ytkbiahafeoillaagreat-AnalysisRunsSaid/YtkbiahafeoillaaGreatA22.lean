/- Laws of analysis. Part 22 of 41. -/
import Derived.Test.YtkbiahafeoillaaGreatA21
namespace Go.Proofs.E
open Go
set_option linter.unusedVariables false
set_option linter.unusedSimpArgs false
set_option linter.unusedSectionVars false
set_option maxRecDepth 4000
set_option maxHeartbeats 1000000
attribute [local irreducible] Yl TL TC TE Spec Xb R1 Hp.le EnvLe TS TR YS Zk
structure AnD where
 base : Nat
 master : Nat
 fin : Nat
 next : Nat
 rv : SV
 ro : Ros
 dv : SV
 dirty : List Yq
abbrev AnD.p (d : AnD) : AnP := ⟨d.base, d.master, d.fin, d.next, d.ro.p, d.dirty⟩
abbrev anV (d : AnD) : List Value := [.int .u64 d.base, .int .u64 d.master, .int .u64 d.fin, .int .u64 d.next, .int .i64 d.ro.next, .slice d.rv.a d.rv.n d.rv.c, .slice d.dv.a d.dv.n d.dv.c]
structure AnIn (ρ : Hp) (d : AnD) : Prop where
 r : RosIn ρ d.rv d.ro
 d : AS ρ 2 YG d.dv d.dirty
theorem AnIn.mono {ρ ρ' d} (h : AnIn ρ d) (hle : ρ.le ρ') : AnIn ρ' d := ⟨h.r.mono hle, h.d.mono hle⟩
def Wn : AnD := ⟨0, 0, 0, 0, Yw, ⟨0, []⟩, Yw, []⟩
theorem YT {ρ : Hp} : AnIn ρ Wn := ⟨⟨AS.nil, by simp [Wn]⟩, AS.nil⟩
structure AnW (ρ : Hp) (d : AnD) : Prop where
 r : RosW ρ d.rv d.ro
 d : AW ρ 2 YG d.dv d.dirty
theorem AnW.mono {ρ ρ' d} (h : AnW ρ d) (hle : ρ.le ρ') : AnW ρ' d := ⟨h.r.mono hle, h.d.mono hle⟩
theorem AnW.in' {ρ d} (h : AnW ρ d) (hr : d.rv.n ≤ 1000000) (hd : d.dv.n ≤ 1000000) : AnIn ρ d := ⟨h.r.in' hr, ⟨h.d.at', hd, h.d.cap⟩⟩
section
variable {H : Type} {enc : TypeId × Value → H} {w : World}
theorem opnS_an : OpnS enc Tryz.prog w 67 (fun cs (x : AnD) => cs = anV x ∧ AnW (hpOf w) x) := fun fuel cs x h hw => by
 obtain ⟨hl, hf⟩ := YJ Tryz.underlying67 h hw
 have hl : cs.length = 7 := by rw [hl]; kernel_rfl
 obtain ⟨c0, c1, c2, c3, c4, c5, c6, rfl⟩ : ∃ c0 c1 c2 c3 c4 c5 c6, cs = [c0, c1, c2, c3, c4, c5, c6] := by
  match cs, hl with
  | [c0, c1, c2, c3, c4, c5, c6], _ => exact ⟨c0, c1, c2, c3, c4, c5, c6, rfl⟩
 obtain ⟨b, h0, b0, _⟩ := Zy h hw Tryz.underlying67 0 0 1 rfl rfl rfl (by kernel_rfl) (Yp Tryz.underlying28).sized
 obtain ⟨m, h1, m0, _⟩ := Zy h hw Tryz.underlying67 1 1 1 rfl rfl rfl (by kernel_rfl) (Yp Tryz.underlying28).sized
 obtain ⟨e, h2, e0, _⟩ := Zy h hw Tryz.underlying67 2 2 1 rfl rfl rfl (by kernel_rfl) (Yp Tryz.underlying28).sized
 obtain ⟨n, h3, n0, _⟩ := Zy h hw Tryz.underlying67 3 3 1 rfl rfl rfl (by kernel_rfl) (Yp Tryz.underlying28).sized
 obtain ⟨⟨rv, ro⟩, h4, w4⟩ := Zy h hw Tryz.underlying67 4 4 2 rfl rfl rfl (by kernel_rfl) opnS_roster
 obtain ⟨⟨da, dn, dc, ds⟩, h5, w5⟩ := Zy h hw Tryz.underlying67 5 6 1 rfl rfl rfl (by kernel_rfl) (Xl (sz := 2) (by' := 16) Tryz.underlying32 (by kernel_rfl) (by decide) (by kernel_rfl) opnS_ckp)
 obtain ⟨d1, d2, d3, _⟩ := Wt WE h5
 simp only [reachBytes] at w5
 replace h5 := h5.cells
 simp only [List.drop_zero, List.drop_succ_cons, List.take_succ_cons, List.take_zero, List.cons.injEq, and_true, XI] at h0 h1 h2 h3 h4 h5
 obtain ⟨rfl, rfl⟩ := h4
 subst h0; subst h1; subst h2; subst h3; subst h5
 refine ⟨⟨b.toNat, m.toNat, e.toNat, n.toNat, rv, ro, ⟨da, dn, dc⟩, ds⟩, ?_, ⟨w4, ⟨d1, by dsimp only; omega, d3⟩⟩⟩
 simp only [anV, YQ b0, YQ m0, YQ e0, YQ n0]
end
theorem idxL_spec (ρ : Hp) (a : Option Addr) (n c : Nat) (l : List Lf) (h : AIn ρ 2 lfV a n l) (hn : n ≤ 200000000000000) (F : Nat) [hF : Ya Tryz.prog F] (cs : List Value) (X : SH) (pp : Lf → Bool)
  (hp : ∀ x ∈ l, Spec Tryz.prog F (.agg ⟨lfV x⟩ :: cs) ρ X (fun z ρ' L' => z = .bool (pp x) ∧ ρ' = ρ ∧ L' = X)) :
  Spec Tryz.prog 201 [.slice a n c, .func (.func F) ⟨[]⟩ ⟨cs⟩] ρ X (fun z ρ' L' => z = .int .i64 (YV pp l) ∧ ρ' = ρ ∧ L' = X) := by
 have hl := h.len
 refine Zd Tryz.func201 rfl rfl rfl fun u R => ?_
 simp only [Zo, List.cons_append, List.nil_append]
 repeat' (first | refine zV ?_ | intro _)
 refine Zq [(0, _), (1, _), (7, _)] (fun (ζ : (Nat)) => [(8, .int .i64 ζ), (4, .int .i64 0)]) (fun (ζ : (Nat)) => ρ) (fun (ζ : (Nat)) => X) (fun (ζ : (Nat)) => ζ ≤ n ∧ ∀ x ∈ l.take ζ, pp x = false) (fun (ζ : (Nat)) => n - ζ) (0) (⟨Nat.zero_le _, by simp⟩) Ze Ze rfl tk ?_
 rintro k hI
 try simp only [List.cons_append, List.nil_append, List.append_assoc, List.append_eq] at hI ⊢
 try dsimp only at hI ⊢
 obtain ⟨hk, hok⟩ := hI
 by_cases hlt : k < n
 ·obtain ⟨b, off, C, T, fr, rfl, hb, hfit, hc⟩ := h.get (show k < l.length by omega)
  have hf := fun (e : pp l[k] = true) => Wh (p := pp) (show k < l.length by omega) e hok
  have ht := fun (e : pp l[k] = false) => WD (p := fun x => pp x = false) (show k < l.length by omega) e hok
  have hp0 := hp _ (List.getElem_mem (show k < l.length by omega))
  cases hx : pp l[k]
  ·have hok2 := ht hx
   rw [hx] at hp0
   generalize l[k] = x at *
   repeat' (first | (refine Zc (.tmp 11) ?_; refine qC rfl rfl (hp0) ?_; rintro v ρ' L' hle ⟨rfl, rfl, rfl⟩ <;> (try simp only [kM, kN, kO])) | refine zV ?_ | intro _)
   refine Zg (k + 1) (⟨hlt, hok2⟩) Ze Ze rfl tk inferInstance (by first | omega | (dsimp only; omega))
  ·have e := hf hx
   rw [hx] at hp0
   have e2 : YV pp l = (k : Int) := by unfold YV; rw [e]
   rw [e2]
   generalize l[k] = x at *
   repeat' (first | (refine Zc (.tmp 11) ?_; refine qC rfl rfl (hp0) ?_; rintro v ρ' L' hle ⟨rfl, rfl, rfl⟩ <;> (try simp only [kM, kN, kO])) | refine zV ?_ | intro _)
   exact qE (L' := _) ⟨rfl, rfl, rfl⟩
 ·have hk2 : k = l.length := by omega
  rw [hk2, List.take_length] at hok
  have e2 : YV pp l = -1 := by unfold YV; rw [WF hok]
  rw [e2]
  repeat' (first | refine zV ?_ | intro _)
  exact qE (L' := _) ⟨rfl, rfl, rfl⟩
theorem delL_spec (ρ : Hp) (v : Value) (sp : List Value) (l : List Lf) (hl : l.length ≤ 200000000000000) (hown : OwnS v l.length ((l.map lfV).flatten) sp 2) (F : Nat) [hF : Ya Tryz.prog F] (cs : List Value) (X : SH) (pp : Lf → Bool)
  (hp : ∀ ρ1, ρ.le ρ1 → ∀ x ∈ l, Spec Tryz.prog F (.agg ⟨lfV x⟩ :: cs) ρ1 X (fun z ρ' L' => z = .bool (pp x) ∧ ρ' = ρ1 ∧ L' = X)) :
  Spec Tryz.prog 178 [v, .func (.func F) ⟨[]⟩ ⟨cs⟩] ρ (ZG v ((l.map lfV).flatten) sp 108 :: X)
   (fun z ρ' L' => ρ' = ρ ∧ ∃ sp', OwnS z (l.filter (fun x => !pp x)).length (((l.filter (fun x => !pp x)).map lfV).flatten) sp' 2 ∧ L' = ZG z (((l.filter (fun x => !pp x)).map lfV).flatten) sp' 108 :: X) := by
 have hidx : Spec Tryz.prog 201 [v, .func (.func F) ⟨[]⟩ ⟨cs⟩] ρ ([ZG v ((l.map lfV).flatten) sp 108] ++ X) (fun z ρ' L' => z = .int .i64 (YV pp l) ∧ ρ' = ρ ∧ L' = ZG v ((l.map lfV).flatten) sp 108 :: X) := by
  refine (Spec.thaw (C := [ZG v ((l.map lfV).flatten) sp 108]) (L := X) (Post := fun z L' => z = .int .i64 (YV pp l) ∧ L' = X) (fun ρ1 hle hf => ?_)).mono ?_
  ·obtain ⟨a, c, rfl, hc, hA⟩ := hown.aIn rfl (fun x _ => rfl) (by simpa using hf)
   exact (idxL_spec ρ1 a l.length c l hA hl F cs X pp (hp ρ1 hle)).mono (fun z ρ' L' _ h => ⟨h.2.1, h.1, h.2.2⟩)
  ·rintro z ρ' L' _ ⟨rfl, L2, ⟨rfl, rfl⟩, rfl⟩
   exact ⟨rfl, rfl, rfl⟩
 rcases hown.out with ⟨rfl, h0, h1, rfl⟩ | ⟨b, cap, rfl, h1, h2, h3⟩
 ·have hl0 : l = [] := List.eq_nil_of_length_eq_zero h0
  subst hl0
  have e : YV pp [] = -1 := rfl
  rw [e] at hidx
  refine Zd Tryz.func178 rfl rfl rfl fun u R => ?_
  simp only [Zo, List.cons_append, List.nil_append] at hidx ⊢
  repeat' (first | (refine Zc (.func 201) ?_; refine qC rfl rfl (hidx) ?_; rintro v ρ' L' hle ⟨rfl, rfl, rfl⟩ <;> (try simp only [kM, kN, kO])) | refine zV ?_ | intro _)
  exact qE (L' := [] :: X) ⟨rfl, [], OwnS.nil 2, rfl⟩
 ·by_cases hall : ∀ x ∈ l, pp x = false
  ·have e : YV pp l = -1 := by unfold YV; rw [WF hall]
   have hfl : l.filter (fun x => !pp x) = l := List.filter_eq_self.2 (fun x hx => by rw [hall x hx]; rfl)
   rw [e] at hidx
   rw [hfl]
   refine Zd Tryz.func178 rfl rfl rfl fun u R => ?_
   simp only [Zo, List.cons_append, List.nil_append] at hidx ⊢
   repeat' (first | (refine Zc (.func 201) ?_; refine qC rfl rfl (hidx) ?_; rintro v ρ' L' hle ⟨rfl, rfl, rfl⟩ <;> (try simp only [kM, kN, kO])) | refine zV ?_ | intro _)
   exact qE (L' := ZG (.slice (some ⟨b, 0, none⟩) l.length cap) ((l.map lfV).flatten) sp 108 :: X) ⟨rfl, sp, hown, rfl⟩
  ·obtain ⟨i, hi, hpi, hbef⟩ : ∃ i, ∃ h : i < l.length, pp l[i] = true ∧ ∀ x ∈ l.take i, pp x = false := by
    cases hf : l.findIdx? pp with
    | none => exact absurd (fun x hx => by have := List.findIdx?_eq_none_iff.1 hf x hx; exact this) hall
    | some i =>
     obtain ⟨h1, h2, h3⟩ := List.findIdx?_eq_some_iff_getElem.1 hf
     refine ⟨i, h1, h2, fun x hx => ?_⟩
     obtain ⟨j, hj, rfl⟩ := List.mem_take_iff_getElem.1 hx
     have := h3 j (by omega)
     simpa using this
   have e : YV pp l = (i : Int) := by unfold YV; rw [Wh (p := pp) hi hpi hbef]
   have hK0 : (l.take i).filter (fun x => !pp x) = l.take i := List.filter_eq_self.2 (fun x hx => by rw [hbef x hx]; rfl)
   have hK1 : (l.take (i + 1)).filter (fun x => !pp x) = l.take i := by
    rw [List.take_succ_eq_append_getElem hi, List.filter_append, hK0, List.filter_cons, if_neg (by simp [hpi])]; simp
   have hfl : ∀ m : List Lf, ((m.map lfV).flatten).length = m.length * 2 := fun m => XC lfV_len m
   have hC : ∀ xs sp, ZG (.slice (some ⟨b, 0, none⟩) l.length cap) xs sp 108 = [(b, .cells ⟨xs ++ sp⟩ 108 (0, 0))] := fun _ _ => rfl
   have hsplit : (l.map lfV).flatten ++ sp = ((l.take i).map lfV).flatten ++ (lfV l[i] ++ (((l.drop (i + 1)).map lfV).flatten ++ sp)) := by
    have : l = l.take i ++ l[i] :: l.drop (i + 1) := by rw [← List.drop_eq_getElem_cons hi, List.take_append_drop]
    have h2 : ∀ (A : List Lf) (x : Lf) (B : List Lf), ((A ++ x :: B).map lfV).flatten ++ sp = (A.map lfV).flatten ++ (lfV x ++ ((B.map lfV).flatten ++ sp)) := fun A x B => by simp
    exact (congrArg (fun l => (l.map lfV).flatten ++ sp) this).trans (h2 _ _ _)
   rw [hC, e] at hidx
   rw [hC]
   refine Zd Tryz.func178 rfl rfl rfl fun u R => ?_
   simp only [Zo, List.cons_append, List.nil_append] at hidx ⊢
   repeat' (first | (refine Zc (.func 201) ?_; refine qC rfl rfl (hidx) ?_; rintro v ρ' L' hle ⟨rfl, rfl, rfl⟩ <;> (try simp only [kM, kN, kO])) | refine zV ?_ | intro _)
   rw [hsplit]
   refine Zq [(0, _), (1, _), (4, _)] (fun (ζ : (Nat) × (Nat) × (List Lf) × (List Value)) => [(5, .int .i64 ζ.2.1), (6, .int .i64 ζ.1)]) (fun (ζ : (Nat) × (Nat) × (List Lf) × (List Value)) => ρ') (fun (ζ : (Nat) × (Nat) × (List Lf) × (List Value)) => [(b, .cells ⟨(ζ.2.2.1.map lfV).flatten ++ (ζ.2.2.2 ++ (((l.drop ζ.1).map lfV).flatten ++ sp))⟩ 108 (0, 0))] :: X) (fun (ζ : (Nat) × (Nat) × (List Lf) × (List Value)) => ζ.1 ≤ l.length ∧ ζ.2.1 = ζ.2.2.1.length ∧ ζ.2.2.1 = (l.take ζ.1).filter (fun x => !pp x) ∧ ζ.2.2.1.length < ζ.1 ∧ ζ.2.2.2.length = (ζ.1 - ζ.2.2.1.length) * 2) (fun (ζ : (Nat) × (Nat) × (List Lf) × (List Value)) => l.length - ζ.1) ((i + 1, i, l.take i, lfV l[i])) (⟨hi, by simp; omega, hK1.symm, by simp; omega, by simp; omega⟩) Ze Ze rfl tk ?_
   rintro ⟨j, kl, K, M⟩ hI
   try simp only [List.cons_append, List.nil_append, List.append_assoc, List.append_eq] at hI ⊢
   try dsimp only at hI ⊢
   obtain ⟨hj, rfl, hK, hKj, hM⟩ := hI
   have hKl := hfl K
   by_cases hlt : j < l.length
   ·have hd := List.drop_eq_getElem_cons hlt
    have hx1 : (l.take (j + 1)).filter (fun x => !pp x) = K ++ (if pp l[j] then [] else [l[j]]) := by
     rw [List.take_succ_eq_append_getElem hlt, List.filter_append, ← hK, List.filter_cons]
     cases pp l[j] <;> simp
    have hp0 := hp ρ' (Hp.le_refl ρ') _ (List.getElem_mem hlt)
    rw [hd]
    generalize l[j] = x at *
    obtain ⟨M1, M2, rfl, hM1⟩ : ∃ M1 M2 : List Value, M = M1 ++ M2 ∧ M1.length = 2 := ⟨M.take 2, M.drop 2, (List.take_append_drop _ _).symm, by rw [List.length_take]; omega⟩
    simp only [List.map_cons, List.flatten_cons, List.append_assoc]
    have hM2 : M2.length = (j - K.length) * 2 - 2 := by rw [List.length_append] at hM; omega
    have hcell : ((K.map lfV).flatten ++ (M1 ++ (M2 ++ (lfV x ++ (((l.drop (j + 1)).map lfV).flatten ++ sp))))).drop (0 + j * 2) = lfV x ++ (((l.drop (j + 1)).map lfV).flatten ++ sp) := by
     rw [← List.append_assoc M1, ← List.append_assoc]
     refine List.drop_left' ?_
     simp only [List.length_append, hKl]; omega
    have hcc : (((K.map lfV).flatten ++ (M1 ++ (M2 ++ (lfV x ++ (((l.drop (j + 1)).map lfV).flatten ++ sp))))).drop (0 + j * 2)).take 2 = lfV x := by rw [hcell]; rfl
    have hfit : 0 + j * 2 + 2 ≤ ((K.map lfV).flatten ++ (M1 ++ (M2 ++ (lfV x ++ (((l.drop (j + 1)).map lfV).flatten ++ sp))))).length := by
     have := congrArg List.length hcell
     simp only [List.length_drop, List.length_append, show (lfV x).length = 2 from rfl] at this ⊢
     omega
    have hPl : ((K.map lfV).flatten).length = 0 + K.length * 2 := by rw [hKl]; omega
    cases hpx : pp x
    ·rw [hpx] at hp0 hx1
     have hre : (K.map lfV).flatten ++ (lfV x ++ (M2 ++ (lfV x ++ (((l.drop (j + 1)).map lfV).flatten ++ sp)))) = ((K ++ [x]).map lfV).flatten ++ ((M2 ++ lfV x) ++ (((l.drop (j + 1)).map lfV).flatten ++ sp)) := by simp
     (try simp only [kM, kN, kO] at hre)
     repeat' (first | (refine Zc (.tmp 26) ?_; refine qC rfl rfl (hp0) ?_; rintro v ρ' L' hle ⟨rfl, rfl, rfl⟩ <;> (try simp only [kM, kN, kO])) | (refine tl_store_midA (P := _) (l := M1) rfl rfl hPl hM1 rfl rfl ?_) | refine zV ?_ | intro _)
     (try simp only [kM, kN, kO])
     rw [hre]
     have hKn : (K ++ [x]).length = K.length + 1 := by simp
     rw [show ((K.length : Int) + 1) = (((K ++ [x]).length : Nat) : Int) by rw [hKn]; omega]
     refine Zg (j + 1, (K ++ [x]).length, K ++ [x], M2 ++ lfV x) (⟨hlt, rfl, by rw [hx1]; rfl, by dsimp only; omega, by simp only [List.length_append, List.length_singleton, show (lfV x).length = 2 from rfl]; omega⟩) Ze Ze rfl tk inferInstance (by first | omega | (dsimp only; omega))
    ·rw [hpx] at hp0 hx1
     have hre : (K.map lfV).flatten ++ (M1 ++ (M2 ++ (lfV x ++ (((l.drop (j + 1)).map lfV).flatten ++ sp)))) = (K.map lfV).flatten ++ (((M1 ++ M2) ++ lfV x) ++ (((l.drop (j + 1)).map lfV).flatten ++ sp)) := by simp
     (try simp only [kM, kN, kO] at hre)
     repeat' (first | (refine Zc (.tmp 26) ?_; refine qC rfl rfl (hp0) ?_; rintro v ρ' L' hle ⟨rfl, rfl, rfl⟩ <;> (try simp only [kM, kN, kO])) | refine zV ?_ | intro _)
     (try simp only [kM, kN, kO])
     rw [hre]
     refine Zg (j + 1, K.length, K, (M1 ++ M2) ++ lfV x) (⟨hlt, rfl, by rw [hx1]; simp, by dsimp only; omega, by simp only [List.length_append, List.length_singleton, show (lfV x).length = 2 from rfl] at hM ⊢; omega⟩) Ze Ze rfl tk inferInstance (by first | omega | (dsimp only; omega))
   ·obtain rfl : j = l.length := by omega
    rw [List.take_length] at hK
    simp only [List.drop_length, List.map_nil, List.flatten_nil, List.nil_append]
    have hni : ¬ cap = K.length := by omega
    have hst : ∀ ws : List Value, ws.length = (l.length - K.length) * 2 → stc ((K.map lfV).flatten ++ (M ++ sp)) (K.length * 2) ws = (K.map lfV).flatten ++ (ws ++ sp) := fun ws hw => by
     rw [← hKl, stcN_mid (by rw [hw, hM])]
    repeat' (first | refine zV ?_ | intro _)
    simp only [Int.toNat_natCast, if_neg hni, Option.map_some, Yz, Nat.zero_add]
    refine tl_clearN (sz := 2) rfl rfl rfl (by simp only [List.length_append]; omega) (by omega) (fun ws hws => ?_)
    rw [hst ws hws]
    repeat' (first | refine zV ?_ | intro _)
    rw [← hK]
    refine qE (L' := [(b, .cells ⟨(K.map lfV).flatten ++ (ws ++ sp)⟩ 108 (0, 0))] :: X) ⟨rfl, ws ++ sp, ⟨.inr ⟨b, cap, rfl, hKl, ?_, by omega⟩⟩, rfl⟩
    simp only [List.length_append, hws]
    have : ((l.map lfV).flatten).length + sp.length = cap * 2 := h2
    rw [hfl l] at this
    omega
theorem idxX_spec (ρ : Hp) (a : Option Addr) (n c : Nat) (l : List Tx) (h : AIn ρ 7 Yk a n l) (hn : n ≤ 200000000000000) (F : Nat) [hF : Ya Tryz.prog F] (cs : List Value) (X : SH) (pp : Tx → Bool)
  (hp : ∀ x ∈ l, Spec Tryz.prog F (.agg ⟨Yk x⟩ :: cs) ρ X (fun z ρ' L' => z = .bool (pp x) ∧ ρ' = ρ ∧ L' = X)) :
  Spec Tryz.prog 155 [.slice a n c, .func (.func F) ⟨[]⟩ ⟨cs⟩] ρ X (fun z ρ' L' => z = .int .i64 (YV pp l) ∧ ρ' = ρ ∧ L' = X) := by
 have hl := h.len
 refine Zd Tryz.func155 rfl rfl rfl fun u R => ?_
 simp only [Zo, List.cons_append, List.nil_append]
 repeat' (first | refine zV ?_ | intro _)
 refine Zq [(0, _), (1, _), (7, _)] (fun (ζ : (Nat)) => [(8, .int .i64 ζ), (4, .int .i64 0)]) (fun (ζ : (Nat)) => ρ) (fun (ζ : (Nat)) => X) (fun (ζ : (Nat)) => ζ ≤ n ∧ ∀ x ∈ l.take ζ, pp x = false) (fun (ζ : (Nat)) => n - ζ) (0) (⟨Nat.zero_le _, by simp⟩) Ze Ze rfl tk ?_
 rintro k hI
 try simp only [List.cons_append, List.nil_append, List.append_assoc, List.append_eq] at hI ⊢
 try dsimp only at hI ⊢
 obtain ⟨hk, hok⟩ := hI
 by_cases hlt : k < n
 ·obtain ⟨b, off, C, T, fr, rfl, hb, hfit, hc⟩ := h.get (show k < l.length by omega)
  have hf := fun (e : pp l[k] = true) => Wh (p := pp) (show k < l.length by omega) e hok
  have ht := fun (e : pp l[k] = false) => WD (p := fun x => pp x = false) (show k < l.length by omega) e hok
  have hp0 := hp _ (List.getElem_mem (show k < l.length by omega))
  cases hx : pp l[k]
  ·have hok2 := ht hx
   rw [hx] at hp0
   generalize l[k] = x at *
   repeat' (first | (refine Zc (.tmp 11) ?_; refine qC rfl rfl (hp0) ?_; rintro v ρ' L' hle ⟨rfl, rfl, rfl⟩ <;> (try simp only [kM, kN, kO])) | refine zV ?_ | intro _)
   refine Zg (k + 1) (⟨hlt, hok2⟩) Ze Ze rfl tk inferInstance (by first | omega | (dsimp only; omega))
  ·have e := hf hx
   rw [hx] at hp0
   have e2 : YV pp l = (k : Int) := by unfold YV; rw [e]
   rw [e2]
   generalize l[k] = x at *
   repeat' (first | (refine Zc (.tmp 11) ?_; refine qC rfl rfl (hp0) ?_; rintro v ρ' L' hle ⟨rfl, rfl, rfl⟩ <;> (try simp only [kM, kN, kO])) | refine zV ?_ | intro _)
   exact qE (L' := _) ⟨rfl, rfl, rfl⟩
 ·have hk2 : k = l.length := by omega
  rw [hk2, List.take_length] at hok
  have e2 : YV pp l = -1 := by unfold YV; rw [WF hok]
  rw [e2]
  repeat' (first | refine zV ?_ | intro _)
  exact qE (L' := _) ⟨rfl, rfl, rfl⟩
theorem delX_spec (ρ : Hp) (v : Value) (sp : List Value) (l : List Tx) (hl : l.length ≤ 200000000000000) (hown : OwnS v l.length ((l.map Yk).flatten) sp 7) (F : Nat) [hF : Ya Tryz.prog F] (cs : List Value) (X : SH) (pp : Tx → Bool)
  (hp : ∀ ρ1, ρ.le ρ1 → ∀ x ∈ l, Spec Tryz.prog F (.agg ⟨Yk x⟩ :: cs) ρ1 X (fun z ρ' L' => z = .bool (pp x) ∧ ρ' = ρ1 ∧ L' = X)) :
  Spec Tryz.prog 151 [v, .func (.func F) ⟨[]⟩ ⟨cs⟩] ρ (ZG v ((l.map Yk).flatten) sp 45 :: X)
   (fun z ρ' L' => ρ' = ρ ∧ ∃ sp', OwnS z (l.filter (fun x => !pp x)).length (((l.filter (fun x => !pp x)).map Yk).flatten) sp' 7 ∧ L' = ZG z (((l.filter (fun x => !pp x)).map Yk).flatten) sp' 45 :: X) := by
 have hidx : Spec Tryz.prog 155 [v, .func (.func F) ⟨[]⟩ ⟨cs⟩] ρ ([ZG v ((l.map Yk).flatten) sp 45] ++ X) (fun z ρ' L' => z = .int .i64 (YV pp l) ∧ ρ' = ρ ∧ L' = ZG v ((l.map Yk).flatten) sp 45 :: X) := by
  refine (Spec.thaw (C := [ZG v ((l.map Yk).flatten) sp 45]) (L := X) (Post := fun z L' => z = .int .i64 (YV pp l) ∧ L' = X) (fun ρ1 hle hf => ?_)).mono ?_
  ·obtain ⟨a, c, rfl, hc, hA⟩ := hown.aIn rfl (fun x _ => rfl) (by simpa using hf)
   exact (idxX_spec ρ1 a l.length c l hA hl F cs X pp (hp ρ1 hle)).mono (fun z ρ' L' _ h => ⟨h.2.1, h.1, h.2.2⟩)
  ·rintro z ρ' L' _ ⟨rfl, L2, ⟨rfl, rfl⟩, rfl⟩
   exact ⟨rfl, rfl, rfl⟩
 rcases hown.out with ⟨rfl, h0, h1, rfl⟩ | ⟨b, cap, rfl, h1, h2, h3⟩
 ·have hl0 : l = [] := List.eq_nil_of_length_eq_zero h0
  subst hl0
  have e : YV pp [] = -1 := rfl
  rw [e] at hidx
  refine Zd Tryz.func151 rfl rfl rfl fun u R => ?_
  simp only [Zo, List.cons_append, List.nil_append] at hidx ⊢
  repeat' (first | (refine Zc (.func 155) ?_; refine qC rfl rfl (hidx) ?_; rintro v ρ' L' hle ⟨rfl, rfl, rfl⟩ <;> (try simp only [kM, kN, kO])) | refine zV ?_ | intro _)
  exact qE (L' := [] :: X) ⟨rfl, [], OwnS.nil 7, rfl⟩
 ·by_cases hall : ∀ x ∈ l, pp x = false
  ·have e : YV pp l = -1 := by unfold YV; rw [WF hall]
   have hfl : l.filter (fun x => !pp x) = l := List.filter_eq_self.2 (fun x hx => by rw [hall x hx]; rfl)
   rw [e] at hidx
   rw [hfl]
   refine Zd Tryz.func151 rfl rfl rfl fun u R => ?_
   simp only [Zo, List.cons_append, List.nil_append] at hidx ⊢
   repeat' (first | (refine Zc (.func 155) ?_; refine qC rfl rfl (hidx) ?_; rintro v ρ' L' hle ⟨rfl, rfl, rfl⟩ <;> (try simp only [kM, kN, kO])) | refine zV ?_ | intro _)
   exact qE (L' := ZG (.slice (some ⟨b, 0, none⟩) l.length cap) ((l.map Yk).flatten) sp 45 :: X) ⟨rfl, sp, hown, rfl⟩
  ·obtain ⟨i, hi, hpi, hbef⟩ : ∃ i, ∃ h : i < l.length, pp l[i] = true ∧ ∀ x ∈ l.take i, pp x = false := by
    cases hf : l.findIdx? pp with
    | none => exact absurd (fun x hx => by have := List.findIdx?_eq_none_iff.1 hf x hx; exact this) hall
    | some i =>
     obtain ⟨h1, h2, h3⟩ := List.findIdx?_eq_some_iff_getElem.1 hf
     refine ⟨i, h1, h2, fun x hx => ?_⟩
     obtain ⟨j, hj, rfl⟩ := List.mem_take_iff_getElem.1 hx
     have := h3 j (by omega)
     simpa using this
   have e : YV pp l = (i : Int) := by unfold YV; rw [Wh (p := pp) hi hpi hbef]
   have hK0 : (l.take i).filter (fun x => !pp x) = l.take i := List.filter_eq_self.2 (fun x hx => by rw [hbef x hx]; rfl)
   have hK1 : (l.take (i + 1)).filter (fun x => !pp x) = l.take i := by
    rw [List.take_succ_eq_append_getElem hi, List.filter_append, hK0, List.filter_cons, if_neg (by simp [hpi])]; simp
   have hfl : ∀ m : List Tx, ((m.map Yk).flatten).length = m.length * 7 := fun m => XC txV_len m
   have hC : ∀ xs sp, ZG (.slice (some ⟨b, 0, none⟩) l.length cap) xs sp 45 = [(b, .cells ⟨xs ++ sp⟩ 45 (0, 0))] := fun _ _ => rfl
   have hsplit : (l.map Yk).flatten ++ sp = ((l.take i).map Yk).flatten ++ (Yk l[i] ++ (((l.drop (i + 1)).map Yk).flatten ++ sp)) := by
    have : l = l.take i ++ l[i] :: l.drop (i + 1) := by rw [← List.drop_eq_getElem_cons hi, List.take_append_drop]
    have h2 : ∀ (A : List Tx) (x : Tx) (B : List Tx), ((A ++ x :: B).map Yk).flatten ++ sp = (A.map Yk).flatten ++ (Yk x ++ ((B.map Yk).flatten ++ sp)) := fun A x B => by simp
    exact (congrArg (fun l => (l.map Yk).flatten ++ sp) this).trans (h2 _ _ _)
   rw [hC, e] at hidx
   rw [hC]
   refine Zd Tryz.func151 rfl rfl rfl fun u R => ?_
   simp only [Zo, List.cons_append, List.nil_append] at hidx ⊢
   repeat' (first | (refine Zc (.func 155) ?_; refine qC rfl rfl (hidx) ?_; rintro v ρ' L' hle ⟨rfl, rfl, rfl⟩ <;> (try simp only [kM, kN, kO])) | refine zV ?_ | intro _)
   rw [hsplit]
   refine Zq [(0, _), (1, _), (4, _)] (fun (ζ : (Nat) × (Nat) × (List Tx) × (List Value)) => [(5, .int .i64 ζ.2.1), (6, .int .i64 ζ.1)]) (fun (ζ : (Nat) × (Nat) × (List Tx) × (List Value)) => ρ') (fun (ζ : (Nat) × (Nat) × (List Tx) × (List Value)) => [(b, .cells ⟨(ζ.2.2.1.map Yk).flatten ++ (ζ.2.2.2 ++ (((l.drop ζ.1).map Yk).flatten ++ sp))⟩ 45 (0, 0))] :: X) (fun (ζ : (Nat) × (Nat) × (List Tx) × (List Value)) => ζ.1 ≤ l.length ∧ ζ.2.1 = ζ.2.2.1.length ∧ ζ.2.2.1 = (l.take ζ.1).filter (fun x => !pp x) ∧ ζ.2.2.1.length < ζ.1 ∧ ζ.2.2.2.length = (ζ.1 - ζ.2.2.1.length) * 7) (fun (ζ : (Nat) × (Nat) × (List Tx) × (List Value)) => l.length - ζ.1) ((i + 1, i, l.take i, Yk l[i])) (⟨hi, by simp; omega, hK1.symm, by simp; omega, by simp; omega⟩) Ze Ze rfl tk ?_
   rintro ⟨j, kl, K, M⟩ hI
   try simp only [List.cons_append, List.nil_append, List.append_assoc, List.append_eq] at hI ⊢
   try dsimp only at hI ⊢
   obtain ⟨hj, rfl, hK, hKj, hM⟩ := hI
   have hKl := hfl K
   by_cases hlt : j < l.length
   ·have hd := List.drop_eq_getElem_cons hlt
    have hx1 : (l.take (j + 1)).filter (fun x => !pp x) = K ++ (if pp l[j] then [] else [l[j]]) := by
     rw [List.take_succ_eq_append_getElem hlt, List.filter_append, ← hK, List.filter_cons]
     cases pp l[j] <;> simp
    have hp0 := hp ρ' (Hp.le_refl ρ') _ (List.getElem_mem hlt)
    rw [hd]
    generalize l[j] = x at *
    obtain ⟨M1, M2, rfl, hM1⟩ : ∃ M1 M2 : List Value, M = M1 ++ M2 ∧ M1.length = 7 := ⟨M.take 7, M.drop 7, (List.take_append_drop _ _).symm, by rw [List.length_take]; omega⟩
    simp only [List.map_cons, List.flatten_cons, List.append_assoc]
    have hM2 : M2.length = (j - K.length) * 7 - 7 := by rw [List.length_append] at hM; omega
    have hcell : ((K.map Yk).flatten ++ (M1 ++ (M2 ++ (Yk x ++ (((l.drop (j + 1)).map Yk).flatten ++ sp))))).drop (0 + j * 7) = Yk x ++ (((l.drop (j + 1)).map Yk).flatten ++ sp) := by
     rw [← List.append_assoc M1, ← List.append_assoc]
     refine List.drop_left' ?_
     simp only [List.length_append, hKl]; omega
    have hcc : (((K.map Yk).flatten ++ (M1 ++ (M2 ++ (Yk x ++ (((l.drop (j + 1)).map Yk).flatten ++ sp))))).drop (0 + j * 7)).take 7 = Yk x := by rw [hcell]; rfl
    have hfit : 0 + j * 7 + 7 ≤ ((K.map Yk).flatten ++ (M1 ++ (M2 ++ (Yk x ++ (((l.drop (j + 1)).map Yk).flatten ++ sp))))).length := by
     have := congrArg List.length hcell
     simp only [List.length_drop, List.length_append, show (Yk x).length = 7 from rfl] at this ⊢
     omega
    have hPl : ((K.map Yk).flatten).length = 0 + K.length * 7 := by rw [hKl]; omega
    cases hpx : pp x
    ·rw [hpx] at hp0 hx1
     have hre : (K.map Yk).flatten ++ (Yk x ++ (M2 ++ (Yk x ++ (((l.drop (j + 1)).map Yk).flatten ++ sp)))) = ((K ++ [x]).map Yk).flatten ++ ((M2 ++ Yk x) ++ (((l.drop (j + 1)).map Yk).flatten ++ sp)) := by simp
     (try simp only [kM, kN, kO] at hre)
     repeat' (first | (refine Zc (.tmp 26) ?_; refine qC rfl rfl (hp0) ?_; rintro v ρ' L' hle ⟨rfl, rfl, rfl⟩ <;> (try simp only [kM, kN, kO])) | (refine tl_store_midA (P := _) (l := M1) rfl rfl hPl hM1 rfl rfl ?_) | refine zV ?_ | intro _)
     (try simp only [kM, kN, kO])
     rw [hre]
     have hKn : (K ++ [x]).length = K.length + 1 := by simp
     rw [show ((K.length : Int) + 1) = (((K ++ [x]).length : Nat) : Int) by rw [hKn]; omega]
     refine Zg (j + 1, (K ++ [x]).length, K ++ [x], M2 ++ Yk x) (⟨hlt, rfl, by rw [hx1]; rfl, by dsimp only; omega, by simp only [List.length_append, List.length_singleton, show (Yk x).length = 7 from rfl]; omega⟩) Ze Ze rfl tk inferInstance (by first | omega | (dsimp only; omega))
    ·rw [hpx] at hp0 hx1
     have hre : (K.map Yk).flatten ++ (M1 ++ (M2 ++ (Yk x ++ (((l.drop (j + 1)).map Yk).flatten ++ sp)))) = (K.map Yk).flatten ++ (((M1 ++ M2) ++ Yk x) ++ (((l.drop (j + 1)).map Yk).flatten ++ sp)) := by simp
     (try simp only [kM, kN, kO] at hre)
     repeat' (first | (refine Zc (.tmp 26) ?_; refine qC rfl rfl (hp0) ?_; rintro v ρ' L' hle ⟨rfl, rfl, rfl⟩ <;> (try simp only [kM, kN, kO])) | refine zV ?_ | intro _)
     (try simp only [kM, kN, kO])
     rw [hre]
     refine Zg (j + 1, K.length, K, (M1 ++ M2) ++ Yk x) (⟨hlt, rfl, by rw [hx1]; simp, by dsimp only; omega, by simp only [List.length_append, List.length_singleton, show (Yk x).length = 7 from rfl] at hM ⊢; omega⟩) Ze Ze rfl tk inferInstance (by first | omega | (dsimp only; omega))
   ·obtain rfl : j = l.length := by omega
    rw [List.take_length] at hK
    simp only [List.drop_length, List.map_nil, List.flatten_nil, List.nil_append]
    have hni : ¬ cap = K.length := by omega
    have hst : ∀ ws : List Value, ws.length = (l.length - K.length) * 7 → stc ((K.map Yk).flatten ++ (M ++ sp)) (K.length * 7) ws = (K.map Yk).flatten ++ (ws ++ sp) := fun ws hw => by
     rw [← hKl, stcN_mid (by rw [hw, hM])]
    repeat' (first | refine zV ?_ | intro _)
    simp only [Int.toNat_natCast, if_neg hni, Option.map_some, Yz, Nat.zero_add]
    refine tl_clearN (sz := 7) rfl rfl rfl (by simp only [List.length_append]; omega) (by omega) (fun ws hws => ?_)
    rw [hst ws hws]
    repeat' (first | refine zV ?_ | intro _)
    rw [← hK]
    refine qE (L' := [(b, .cells ⟨(K.map Yk).flatten ++ (ws ++ sp)⟩ 45 (0, 0))] :: X) ⟨rfl, ws ++ sp, ⟨.inr ⟨b, cap, rfl, hKl, ?_, by omega⟩⟩, rfl⟩
    simp only [List.length_append, hws]
    have : ((l.map Yk).flatten).length + sp.length = cap * 7 := h2
    rw [hfl l] at this
    omega
theorem idxU_spec (ρ : Hp) (a : Option Addr) (n c : Nat) (l : List Nat) (h : SIn ρ Yr a n l) (hn : n ≤ 200000000000000) (F : Nat) [hF : Ya Tryz.prog F] (cs : List Value) (X : SH) (pp : Nat → Bool)
  (hp : ∀ x ∈ l, Spec Tryz.prog F (Yr x :: cs) ρ X (fun z ρ' L' => z = .bool (pp x) ∧ ρ' = ρ ∧ L' = X)) :
  Spec Tryz.prog 202 [.slice a n c, .func (.func F) ⟨[]⟩ ⟨cs⟩] ρ X (fun z ρ' L' => z = .int .i64 (YV pp l) ∧ ρ' = ρ ∧ L' = X) := by
 have hl := h.len
 refine Zd Tryz.func202 rfl rfl rfl fun u R => ?_
 simp only [Zo, List.cons_append, List.nil_append]
 repeat' (first | refine zV ?_ | intro _)
 refine Zq [(0, _), (1, _), (7, _)] (fun (ζ : (Nat)) => [(8, .int .i64 ζ), (4, .int .i64 0)]) (fun (ζ : (Nat)) => ρ) (fun (ζ : (Nat)) => X) (fun (ζ : (Nat)) => ζ ≤ n ∧ ∀ x ∈ l.take ζ, pp x = false) (fun (ζ : (Nat)) => n - ζ) (0) (⟨Nat.zero_le _, by simp⟩) Ze Ze rfl tk ?_
 rintro k hI
 try simp only [List.cons_append, List.nil_append, List.append_assoc, List.append_eq] at hI ⊢
 try dsimp only at hI ⊢
 obtain ⟨hk, hok⟩ := hI
 by_cases hlt : k < n
 ·obtain ⟨b, off, C, T, fr, rfl, hb, hc⟩ := h.get (show k < l.length by omega)
  have hf := fun (e : pp l[k] = true) => Wh (p := pp) (show k < l.length by omega) e hok
  have ht := fun (e : pp l[k] = false) => WD (p := fun x => pp x = false) (show k < l.length by omega) e hok
  have hp0 := hp _ (List.getElem_mem (show k < l.length by omega))
  cases hx : pp l[k]
  ·have hok2 := ht hx
   rw [hx] at hp0
   generalize l[k] = x at *
   repeat' (first | (refine Zc (.tmp 11) ?_; refine qC rfl rfl (hp0) ?_; rintro v ρ' L' hle ⟨rfl, rfl, rfl⟩ <;> (try simp only [kM, kN, kO])) | refine zV ?_ | intro _)
   refine Zg (k + 1) (⟨hlt, hok2⟩) Ze Ze rfl tk inferInstance (by first | omega | (dsimp only; omega))
  ·have e := hf hx
   rw [hx] at hp0
   have e2 : YV pp l = (k : Int) := by unfold YV; rw [e]
   rw [e2]
   generalize l[k] = x at *
   repeat' (first | (refine Zc (.tmp 11) ?_; refine qC rfl rfl (hp0) ?_; rintro v ρ' L' hle ⟨rfl, rfl, rfl⟩ <;> (try simp only [kM, kN, kO])) | refine zV ?_ | intro _)
   exact qE (L' := _) ⟨rfl, rfl, rfl⟩
 ·have hk2 : k = l.length := by omega
  rw [hk2, List.take_length] at hok
  have e2 : YV pp l = -1 := by unfold YV; rw [WF hok]
  rw [e2]
  repeat' (first | refine zV ?_ | intro _)
  exact qE (L' := _) ⟨rfl, rfl, rfl⟩
theorem delU_spec (ρ : Hp) (v : Value) (sp : List Value) (l : List Nat) (hl : l.length ≤ 200000000000000) (hown : OwnS v l.length (l.map Yr) sp 1) (F : Nat) [hF : Ya Tryz.prog F] (cs : List Value) (X : SH) (pp : Nat → Bool)
  (hp : ∀ ρ1, ρ.le ρ1 → ∀ x ∈ l, Spec Tryz.prog F (Yr x :: cs) ρ1 X (fun z ρ' L' => z = .bool (pp x) ∧ ρ' = ρ1 ∧ L' = X)) :
  Spec Tryz.prog 180 [v, .func (.func F) ⟨[]⟩ ⟨cs⟩] ρ (ZG v (l.map Yr) sp 28 :: X)
   (fun z ρ' L' => ρ' = ρ ∧ ∃ sp', OwnS z (l.filter (fun x => !pp x)).length ((l.filter (fun x => !pp x)).map Yr) sp' 1 ∧ L' = ZG z ((l.filter (fun x => !pp x)).map Yr) sp' 28 :: X) := by
 have hidx : Spec Tryz.prog 202 [v, .func (.func F) ⟨[]⟩ ⟨cs⟩] ρ ([ZG v (l.map Yr) sp 28] ++ X) (fun z ρ' L' => z = .int .i64 (YV pp l) ∧ ρ' = ρ ∧ L' = ZG v (l.map Yr) sp 28 :: X) := by
  refine (Spec.thaw (C := [ZG v (l.map Yr) sp 28]) (L := X) (Post := fun z L' => z = .int .i64 (YV pp l) ∧ L' = X) (fun ρ1 hle hf => ?_)).mono ?_
  ·obtain ⟨a, c, rfl, hc, hA⟩ := hown.sIn (by simpa using hf)
   exact (idxU_spec ρ1 a l.length c l hA hl F cs X pp (hp ρ1 hle)).mono (fun z ρ' L' _ h => ⟨h.2.1, h.1, h.2.2⟩)
  ·rintro z ρ' L' _ ⟨rfl, L2, ⟨rfl, rfl⟩, rfl⟩
   exact ⟨rfl, rfl, rfl⟩
 rcases hown.out with ⟨rfl, h0, h1, rfl⟩ | ⟨b, cap, rfl, h1, h2, h3⟩
 ·have hl0 : l = [] := List.eq_nil_of_length_eq_zero h0
  subst hl0
  have e : YV pp [] = -1 := rfl
  rw [e] at hidx
  refine Zd Tryz.func180 rfl rfl rfl fun u R => ?_
  simp only [Zo, List.cons_append, List.nil_append] at hidx ⊢
  repeat' (first | (refine Zc (.func 202) ?_; refine qC rfl rfl (hidx) ?_; rintro v ρ' L' hle ⟨rfl, rfl, rfl⟩ <;> (try simp only [kM, kN, kO])) | refine zV ?_ | intro _)
  exact qE (L' := [] :: X) ⟨rfl, [], OwnS.nil 1, rfl⟩
 ·by_cases hall : ∀ x ∈ l, pp x = false
  ·have e : YV pp l = -1 := by unfold YV; rw [WF hall]
   have hfl : l.filter (fun x => !pp x) = l := List.filter_eq_self.2 (fun x hx => by rw [hall x hx]; rfl)
   rw [e] at hidx
   rw [hfl]
   refine Zd Tryz.func180 rfl rfl rfl fun u R => ?_
   simp only [Zo, List.cons_append, List.nil_append] at hidx ⊢
   repeat' (first | (refine Zc (.func 202) ?_; refine qC rfl rfl (hidx) ?_; rintro v ρ' L' hle ⟨rfl, rfl, rfl⟩ <;> (try simp only [kM, kN, kO])) | refine zV ?_ | intro _)
   exact qE (L' := ZG (.slice (some ⟨b, 0, none⟩) l.length cap) (l.map Yr) sp 28 :: X) ⟨rfl, sp, hown, rfl⟩
  ·obtain ⟨i, hi, hpi, hbef⟩ : ∃ i, ∃ h : i < l.length, pp l[i] = true ∧ ∀ x ∈ l.take i, pp x = false := by
    cases hf : l.findIdx? pp with
    | none => exact absurd (fun x hx => by have := List.findIdx?_eq_none_iff.1 hf x hx; exact this) hall
    | some i =>
     obtain ⟨h1, h2, h3⟩ := List.findIdx?_eq_some_iff_getElem.1 hf
     refine ⟨i, h1, h2, fun x hx => ?_⟩
     obtain ⟨j, hj, rfl⟩ := List.mem_take_iff_getElem.1 hx
     have := h3 j (by omega)
     simpa using this
   have e : YV pp l = (i : Int) := by unfold YV; rw [Wh (p := pp) hi hpi hbef]
   have hK0 : (l.take i).filter (fun x => !pp x) = l.take i := List.filter_eq_self.2 (fun x hx => by rw [hbef x hx]; rfl)
   have hK1 : (l.take (i + 1)).filter (fun x => !pp x) = l.take i := by
    rw [List.take_succ_eq_append_getElem hi, List.filter_append, hK0, List.filter_cons, if_neg (by simp [hpi])]; simp
   have hfl : ∀ m : List Nat, (m.map Yr).length = m.length * 1 := fun m => by simp
   have hC : ∀ xs sp, ZG (.slice (some ⟨b, 0, none⟩) l.length cap) xs sp 28 = [(b, .cells ⟨xs ++ sp⟩ 28 (0, 0))] := fun _ _ => rfl
   have hsplit : l.map Yr ++ sp = (l.take i).map Yr ++ ([Yr l[i]] ++ ((l.drop (i + 1)).map Yr ++ sp)) := by
    have : l = l.take i ++ l[i] :: l.drop (i + 1) := by rw [← List.drop_eq_getElem_cons hi, List.take_append_drop]
    have h2 : ∀ (A : List Nat) (x : Nat) (B : List Nat), (A ++ x :: B).map Yr ++ sp = A.map Yr ++ ([Yr x] ++ (B.map Yr ++ sp)) := fun A x B => by simp
    exact (congrArg (fun l => l.map Yr ++ sp) this).trans (h2 _ _ _)
   rw [hC, e] at hidx
   rw [hC]
   refine Zd Tryz.func180 rfl rfl rfl fun u R => ?_
   simp only [Zo, List.cons_append, List.nil_append] at hidx ⊢
   repeat' (first | (refine Zc (.func 202) ?_; refine qC rfl rfl (hidx) ?_; rintro v ρ' L' hle ⟨rfl, rfl, rfl⟩ <;> (try simp only [kM, kN, kO])) | refine zV ?_ | intro _)
   rw [hsplit]
   refine Zq [(0, _), (1, _), (4, _)] (fun (ζ : (Nat) × (Nat) × (List Nat) × (List Value)) => [(5, .int .i64 ζ.2.1), (6, .int .i64 ζ.1)]) (fun (ζ : (Nat) × (Nat) × (List Nat) × (List Value)) => ρ') (fun (ζ : (Nat) × (Nat) × (List Nat) × (List Value)) => [(b, .cells ⟨ζ.2.2.1.map Yr ++ (ζ.2.2.2 ++ ((l.drop ζ.1).map Yr ++ sp))⟩ 28 (0, 0))] :: X) (fun (ζ : (Nat) × (Nat) × (List Nat) × (List Value)) => ζ.1 ≤ l.length ∧ ζ.2.1 = ζ.2.2.1.length ∧ ζ.2.2.1 = (l.take ζ.1).filter (fun x => !pp x) ∧ ζ.2.2.1.length < ζ.1 ∧ ζ.2.2.2.length = (ζ.1 - ζ.2.2.1.length) * 1) (fun (ζ : (Nat) × (Nat) × (List Nat) × (List Value)) => l.length - ζ.1) ((i + 1, i, l.take i, [Yr l[i]])) (⟨hi, by simp; omega, hK1.symm, by simp; omega, by simp; omega⟩) Ze Ze rfl tk ?_
   rintro ⟨j, kl, K, M⟩ hI
   try simp only [List.cons_append, List.nil_append, List.append_assoc, List.append_eq] at hI ⊢
   try dsimp only at hI ⊢
   obtain ⟨hj, rfl, hK, hKj, hM⟩ := hI
   have hKl := hfl K
   by_cases hlt : j < l.length
   ·have hd := List.drop_eq_getElem_cons hlt
    have hx1 : (l.take (j + 1)).filter (fun x => !pp x) = K ++ (if pp l[j] then [] else [l[j]]) := by
     rw [List.take_succ_eq_append_getElem hlt, List.filter_append, ← hK, List.filter_cons]
     cases pp l[j] <;> simp
    have hp0 := hp ρ' (Hp.le_refl ρ') _ (List.getElem_mem hlt)
    rw [hd]
    generalize l[j] = x at *
    obtain ⟨M1, M2, rfl, hM1⟩ : ∃ M1 M2 : List Value, M = M1 ++ M2 ∧ M1.length = 1 := ⟨M.take 1, M.drop 1, (List.take_append_drop _ _).symm, by rw [List.length_take]; omega⟩
    simp only [List.map_cons, List.flatten_cons, List.append_assoc]
    have hM2 : M2.length = (j - K.length) * 1 - 1 := by rw [List.length_append] at hM; omega
    have hcell : (K.map Yr ++ (M1 ++ (M2 ++ (Yr x :: ((l.drop (j + 1)).map Yr ++ sp))))).drop (0 + j * 1) = Yr x :: ((l.drop (j + 1)).map Yr ++ sp) := by
     rw [← List.append_assoc M1, ← List.append_assoc]
     refine List.drop_left' ?_
     simp only [List.length_append, hKl]; omega
    have hcc : (K.map Yr ++ (M1 ++ (M2 ++ (Yr x :: ((l.drop (j + 1)).map Yr ++ sp)))))[0 + j * 1]? = some (Yr x) := by
     have := congrArg (fun z => z[0]?) hcell
     simpa using this
    have hPl : (K.map Yr).length = 0 + K.length * 1 := by rw [hKl]; omega
    cases hpx : pp x
    ·rw [hpx] at hp0 hx1
     have hre : K.map Yr ++ ([Yr x] ++ (M2 ++ (Yr x :: ((l.drop (j + 1)).map Yr ++ sp)))) = (K ++ [x]).map Yr ++ ((M2 ++ [Yr x]) ++ ((l.drop (j + 1)).map Yr ++ sp)) := by simp
     (try simp only [kM, kN, kO] at hre)
     repeat' (first | (refine Zc (.tmp 26) ?_; refine qC rfl rfl (hp0) ?_; rintro v ρ' L' hle ⟨rfl, rfl, rfl⟩ <;> (try simp only [kM, kN, kO])) | (obtain ⟨m1, rfl⟩ : ∃ m1, M1 = [m1] := List.length_eq_one_iff.1 hM1; refine tl_store_mid (o := 0 + K.length * 1) (d := 0) (P := _) (l := [m1]) rfl rfl hPl rfl ?_) | refine zV ?_ | intro _)
     (try simp only [kM, kN, kO])
     rw [hre]
     have hKn : (K ++ [x]).length = K.length + 1 := by simp
     rw [show ((K.length : Int) + 1) = (((K ++ [x]).length : Nat) : Int) by rw [hKn]; omega]
     refine Zg (j + 1, (K ++ [x]).length, K ++ [x], M2 ++ [Yr x]) (⟨hlt, rfl, by rw [hx1]; rfl, by dsimp only; omega, by simp only [List.length_append, List.length_singleton]; omega⟩) Ze Ze rfl tk inferInstance (by first | omega | (dsimp only; omega))
    ·rw [hpx] at hp0 hx1
     have hre : K.map Yr ++ (M1 ++ (M2 ++ (Yr x :: ((l.drop (j + 1)).map Yr ++ sp)))) = K.map Yr ++ (((M1 ++ M2) ++ [Yr x]) ++ ((l.drop (j + 1)).map Yr ++ sp)) := by simp
     (try simp only [kM, kN, kO] at hre)
     repeat' (first | (refine Zc (.tmp 26) ?_; refine qC rfl rfl (hp0) ?_; rintro v ρ' L' hle ⟨rfl, rfl, rfl⟩ <;> (try simp only [kM, kN, kO])) | refine zV ?_ | intro _)
     (try simp only [kM, kN, kO])
     rw [hre]
     refine Zg (j + 1, K.length, K, (M1 ++ M2) ++ [Yr x]) (⟨hlt, rfl, by rw [hx1]; simp, by dsimp only; omega, by simp only [List.length_append, List.length_singleton] at hM ⊢; omega⟩) Ze Ze rfl tk inferInstance (by first | omega | (dsimp only; omega))
   ·obtain rfl : j = l.length := by omega
    rw [List.take_length] at hK
    simp only [List.drop_length, List.map_nil, List.flatten_nil, List.nil_append]
    have hni : ¬ cap = K.length := by omega
    have hst : ∀ ws : List Value, ws.length = (l.length - K.length) * 1 → stc (K.map Yr ++ (M ++ sp)) (K.length * 1) ws = K.map Yr ++ (ws ++ sp) := fun ws hw => by
     rw [← hKl, stcN_mid (by rw [hw, hM])]
    repeat' (first | refine zV ?_ | intro _)
    simp only [Int.toNat_natCast, if_neg hni, Option.map_some, Yz, Nat.zero_add]
    refine tl_clearN (sz := 1) rfl rfl rfl (by simp only [List.length_append]; omega) (by omega) (fun ws hws => ?_)
    rw [hst ws hws]
    repeat' (first | refine zV ?_ | intro _)
    rw [← hK]
    refine qE (L' := [(b, .cells ⟨K.map Yr ++ (ws ++ sp)⟩ 28 (0, 0))] :: X) ⟨rfl, ws ++ sp, ⟨.inr ⟨b, cap, rfl, hKl, ?_, by omega⟩⟩, rfl⟩
    simp only [List.length_append, hws]
    have : (l.map Yr).length + sp.length = cap * 1 := h2
    rw [hfl l] at this
    omega
end Go.Proofs.E
