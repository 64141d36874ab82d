/- Laws of analysis. Part 22 of 37. -/
import Derived.Test.YtkbiahafeoillaaGreatB21
namespace Go.Proofs.E
open Go
set_option linter.unusedVariables false
set_option linter.unusedSimpArgs false
set_option linter.unusedSectionVars false
set_option maxRecDepth 4000
set_option maxHeartbeats 1000000
attribute [local irreducible] Yl TL TC TE Spec YY R1 Hp.le EnvLe TS TR YS Zq
theorem idxL_spec (ρ : Hp) (a : Option Addr) (n c : Nat) (l : List Lf) (h : AIn ρ 2 lfV a n l) (hn : n ≤ 200000000000000) (F : Nat) [hF : Yk Tryz.prog F] (cs : List Value) (X : SH) (pp : Lf → Bool)
  (hp : ∀ x ∈ l, Spec Tryz.prog F (.agg ⟨lfV x⟩ :: cs) ρ X (fun z ρ' L' => z = .bool (pp x) ∧ ρ' = ρ ∧ L' = X)) :
  Spec Tryz.prog 201 [.slice a n c, .func (.func F) ⟨[]⟩ ⟨cs⟩] ρ X (fun z ρ' L' => z = .int .i64 (YN pp l) ∧ ρ' = ρ ∧ L' = X) := by
 have hl := h.len
 refine Zg Tryz.func201 rfl rfl rfl fun u R => ?_
 simp only [Zx, List.cons_append, List.nil_append]
 repeat' (first | (refine Zz ?_; refine Zk (Zc rfl) rfl rfl ?_) | (refine Zh ?_; first | (refine Zf ?_; refine qQ ?_) | refine Zm ?_) | refine Zb ?_ | (refine Zi ?_; refine Zr ?_) | (refine Zj ?_; refine Zs ?_) | intro _)
 refine ZC [(0, _), (1, _), (7, _)] (fun (ζ : (Nat)) => [(8, .int .i64 ζ), (4, .int .i64 0)]) (fun (ζ : (Nat)) => ρ) (fun (ζ : (Nat)) => X) (fun (ζ : (Nat)) => ζ ≤ n ∧ ∀ x ∈ l.take ζ, pp x = false) (fun (ζ : (Nat)) => n - ζ) (0) (⟨Nat.zero_le _, by simp⟩) Zl Zl rfl tk ?_
 rintro k hI
 try simp only [List.cons_append, List.nil_append, List.append_assoc, List.append_eq] at hI ⊢
 try dsimp only at hI ⊢
 obtain ⟨hk, hok⟩ := hI
 by_cases hlt : k < n
 ·obtain ⟨b, off, C, T, fr, rfl, hb, hfit, hc⟩ := h.get (show k < l.length by omega)
  have hf := fun (e : pp l[k] = true) => XT (p := pp) (show k < l.length by omega) e hok
  have ht := fun (e : pp l[k] = false) => take_more (p := fun x => pp x = false) (show k < l.length by omega) e hok
  have hp0 := hp _ (List.getElem_mem (show k < l.length by omega))
  cases hx : pp l[k]
  ·have hok2 := ht hx
   rw [hx] at hp0
   generalize l[k] = x at *
   repeat' (first | (refine Ze (.tmp 11) ?_; refine qC rfl rfl (hp0) ?_; rintro v ρ' L' hle ⟨rfl, rfl, rfl⟩ <;> (try simp only [kM, kN, kO])) | (refine Zz ?_; refine Zk (Zc rfl) rfl rfl ?_) | (refine Zh ?_; first | (refine Zf ?_; refine qQ ?_) | refine Zm ?_) | refine Zb ?_ | (refine Zi ?_; refine Zr ?_) | (refine Zj ?_; refine Zs ?_) | intro _)
   refine Zp (k + 1) (⟨hlt, hok2⟩) Zl Zl rfl tk inferInstance (by first | omega | (dsimp only; omega))
  ·have e := hf hx
   rw [hx] at hp0
   have e2 : YN pp l = (k : Int) := by unfold YN; rw [e]
   rw [e2]
   generalize l[k] = x at *
   repeat' (first | (refine Ze (.tmp 11) ?_; refine qC rfl rfl (hp0) ?_; rintro v ρ' L' hle ⟨rfl, rfl, rfl⟩ <;> (try simp only [kM, kN, kO])) | (refine Zz ?_; refine Zk (Zc rfl) rfl rfl ?_) | (refine Zh ?_; first | (refine Zf ?_; refine qQ ?_) | refine Zm ?_) | refine Zb ?_ | (refine Zi ?_; refine Zr ?_) | (refine Zj ?_; refine Zs ?_) | intro _)
   exact qE (L' := _) ⟨rfl, rfl, rfl⟩
 ·have hk2 : k = l.length := by omega
  rw [hk2, List.take_length] at hok
  have e2 : YN pp l = -1 := by unfold YN; rw [Wp hok]
  rw [e2]
  repeat' (first | (refine Zz ?_; refine Zk (Zc rfl) rfl rfl ?_) | (refine Zh ?_; first | (refine Zf ?_; refine qQ ?_) | refine Zm ?_) | refine Zb ?_ | (refine Zi ?_; refine Zr ?_) | (refine Zj ?_; refine Zs ?_) | intro _)
  exact qE (L' := _) ⟨rfl, rfl, rfl⟩
theorem delL_spec (ρ : Hp) (v : Value) (sp : List Value) (l : List Lf) (hl : l.length ≤ 200000000000000) (hown : OwnS v l.length ((l.map lfV).flatten) sp 2) (F : Nat) [hF : Yk Tryz.prog F] (cs : List Value) (X : SH) (pp : Lf → Bool)
  (hp : ∀ ρ1, ρ.le ρ1 → ∀ x ∈ l, Spec Tryz.prog F (.agg ⟨lfV x⟩ :: cs) ρ1 X (fun z ρ' L' => z = .bool (pp x) ∧ ρ' = ρ1 ∧ L' = X)) :
  Spec Tryz.prog 178 [v, .func (.func F) ⟨[]⟩ ⟨cs⟩] ρ (ZN v ((l.map lfV).flatten) sp 108 :: X)
   (fun z ρ' L' => ρ' = ρ ∧ ∃ sp', OwnS z (l.filter (fun x => !pp x)).length (((l.filter (fun x => !pp x)).map lfV).flatten) sp' 2 ∧ L' = ZN z (((l.filter (fun x => !pp x)).map lfV).flatten) sp' 108 :: X) := by
 have hidx : Spec Tryz.prog 201 [v, .func (.func F) ⟨[]⟩ ⟨cs⟩] ρ ([ZN v ((l.map lfV).flatten) sp 108] ++ X) (fun z ρ' L' => z = .int .i64 (YN pp l) ∧ ρ' = ρ ∧ L' = ZN v ((l.map lfV).flatten) sp 108 :: X) := by
  refine (Spec.thaw (C := [ZN v ((l.map lfV).flatten) sp 108]) (L := X) (Post := fun z L' => z = .int .i64 (YN pp l) ∧ L' = X) (fun ρ1 hle hf => ?_)).mono ?_
  ·obtain ⟨a, c, rfl, hc, hA⟩ := hown.aIn rfl (fun x _ => rfl) (by simpa using hf)
   exact (idxL_spec ρ1 a l.length c l hA hl F cs X pp (hp ρ1 hle)).mono (fun z ρ' L' _ h => ⟨h.2.1, h.1, h.2.2⟩)
  ·rintro z ρ' L' _ ⟨rfl, L2, ⟨rfl, rfl⟩, rfl⟩
   exact ⟨rfl, rfl, rfl⟩
 rcases hown.out with ⟨rfl, h0, h1, rfl⟩ | ⟨b, cap, rfl, h1, h2, h3⟩
 ·have hl0 : l = [] := List.eq_nil_of_length_eq_zero h0
  subst hl0
  have e : YN pp [] = -1 := rfl
  rw [e] at hidx
  refine Zg Tryz.func178 rfl rfl rfl fun u R => ?_
  simp only [Zx, List.cons_append, List.nil_append] at hidx ⊢
  repeat' (first | (refine Ze (.func 201) ?_; refine qC rfl rfl (hidx) ?_; rintro v ρ' L' hle ⟨rfl, rfl, rfl⟩ <;> (try simp only [kM, kN, kO])) | (refine Zz ?_; refine Zk (Zc rfl) rfl rfl ?_) | (refine Zh ?_; first | (refine Zf ?_; refine qQ ?_) | refine Zm ?_) | refine Zb ?_ | (refine Zi ?_; refine Zr ?_) | (refine Zj ?_; refine Zs ?_) | intro _)
  exact qE (L' := [] :: X) ⟨rfl, [], OwnS.nil 2, rfl⟩
 ·by_cases hall : ∀ x ∈ l, pp x = false
  ·have e : YN pp l = -1 := by unfold YN; rw [Wp hall]
   have hfl : l.filter (fun x => !pp x) = l := List.filter_eq_self.2 (fun x hx => by rw [hall x hx]; rfl)
   rw [e] at hidx
   rw [hfl]
   refine Zg Tryz.func178 rfl rfl rfl fun u R => ?_
   simp only [Zx, List.cons_append, List.nil_append] at hidx ⊢
   repeat' (first | (refine Ze (.func 201) ?_; refine qC rfl rfl (hidx) ?_; rintro v ρ' L' hle ⟨rfl, rfl, rfl⟩ <;> (try simp only [kM, kN, kO])) | (refine Zz ?_; refine Zk (Zc rfl) rfl rfl ?_) | (refine Zh ?_; first | (refine Zf ?_; refine qQ ?_) | refine Zm ?_) | refine Zb ?_ | (refine Zi ?_; refine Zr ?_) | (refine Zj ?_; refine Zs ?_) | intro _)
   exact qE (L' := ZN (.slice (some ⟨b, 0, none⟩) l.length cap) ((l.map lfV).flatten) sp 108 :: X) ⟨rfl, sp, hown, rfl⟩
  ·obtain ⟨i, hi, hpi, hbef⟩ : ∃ i, ∃ h : i < l.length, pp l[i] = true ∧ ∀ x ∈ l.take i, pp x = false := by
    cases hf : l.findIdx? pp with
    | none => exact absurd (fun x hx => by have := List.findIdx?_eq_none_iff.1 hf x hx; exact this) hall
    | some i =>
     obtain ⟨h1, h2, h3⟩ := List.findIdx?_eq_some_iff_getElem.1 hf
     refine ⟨i, h1, h2, fun x hx => ?_⟩
     obtain ⟨j, hj, rfl⟩ := List.mem_take_iff_getElem.1 hx
     have := h3 j (by omega)
     simpa using this
   have e : YN pp l = (i : Int) := by unfold YN; rw [XT (p := pp) hi hpi hbef]
   have hK0 : (l.take i).filter (fun x => !pp x) = l.take i := List.filter_eq_self.2 (fun x hx => by rw [hbef x hx]; rfl)
   have hK1 : (l.take (i + 1)).filter (fun x => !pp x) = l.take i := by
    rw [List.take_succ_eq_append_getElem hi, List.filter_append, hK0, List.filter_cons, if_neg (by simp [hpi])]; simp
   have hfl : ∀ m : List Lf, ((m.map lfV).flatten).length = m.length * 2 := fun m => flatN_len lfV_len m
   have hC : ∀ xs sp, ZN (.slice (some ⟨b, 0, none⟩) l.length cap) xs sp 108 = [(b, .cells ⟨xs ++ sp⟩ 108 (0, 0))] := fun _ _ => rfl
   have hsplit : (l.map lfV).flatten ++ sp = ((l.take i).map lfV).flatten ++ (lfV l[i] ++ (((l.drop (i + 1)).map lfV).flatten ++ sp)) := by
    have : l = l.take i ++ l[i] :: l.drop (i + 1) := by rw [← List.drop_eq_getElem_cons hi, List.take_append_drop]
    have h2 : ∀ (A : List Lf) (x : Lf) (B : List Lf), ((A ++ x :: B).map lfV).flatten ++ sp = (A.map lfV).flatten ++ (lfV x ++ ((B.map lfV).flatten ++ sp)) := fun A x B => by simp
    exact (congrArg (fun l => (l.map lfV).flatten ++ sp) this).trans (h2 _ _ _)
   rw [hC, e] at hidx
   rw [hC]
   refine Zg Tryz.func178 rfl rfl rfl fun u R => ?_
   simp only [Zx, List.cons_append, List.nil_append] at hidx ⊢
   repeat' (first | (refine Ze (.func 201) ?_; refine qC rfl rfl (hidx) ?_; rintro v ρ' L' hle ⟨rfl, rfl, rfl⟩ <;> (try simp only [kM, kN, kO])) | (refine Zz ?_; refine Zk (Zc rfl) rfl rfl ?_) | (refine Zh ?_; first | (refine Zf ?_; refine qQ ?_) | refine Zm ?_) | refine Zb ?_ | (refine Zi ?_; refine Zr ?_) | (refine Zj ?_; refine Zs ?_) | intro _)
   rw [hsplit]
   refine ZC [(0, _), (1, _), (4, _)] (fun (ζ : (Nat) × (Nat) × (List Lf) × (List Value)) => [(5, .int .i64 ζ.2.1), (6, .int .i64 ζ.1)]) (fun (ζ : (Nat) × (Nat) × (List Lf) × (List Value)) => ρ') (fun (ζ : (Nat) × (Nat) × (List Lf) × (List Value)) => [(b, .cells ⟨(ζ.2.2.1.map lfV).flatten ++ (ζ.2.2.2 ++ (((l.drop ζ.1).map lfV).flatten ++ sp))⟩ 108 (0, 0))] :: X) (fun (ζ : (Nat) × (Nat) × (List Lf) × (List Value)) => ζ.1 ≤ l.length ∧ ζ.2.1 = ζ.2.2.1.length ∧ ζ.2.2.1 = (l.take ζ.1).filter (fun x => !pp x) ∧ ζ.2.2.1.length < ζ.1 ∧ ζ.2.2.2.length = (ζ.1 - ζ.2.2.1.length) * 2) (fun (ζ : (Nat) × (Nat) × (List Lf) × (List Value)) => l.length - ζ.1) ((i + 1, i, l.take i, lfV l[i])) (⟨hi, by simp; omega, hK1.symm, by simp; omega, by simp; omega⟩) Zl Zl rfl tk ?_
   rintro ⟨j, kl, K, M⟩ hI
   try simp only [List.cons_append, List.nil_append, List.append_assoc, List.append_eq] at hI ⊢
   try dsimp only at hI ⊢
   obtain ⟨hj, rfl, hK, hKj, hM⟩ := hI
   have hKl := hfl K
   by_cases hlt : j < l.length
   ·have hd := List.drop_eq_getElem_cons hlt
    have hx1 : (l.take (j + 1)).filter (fun x => !pp x) = K ++ (if pp l[j] then [] else [l[j]]) := by
     rw [List.take_succ_eq_append_getElem hlt, List.filter_append, ← hK, List.filter_cons]
     cases pp l[j] <;> simp
    have hp0 := hp ρ' (Hp.le_refl ρ') _ (List.getElem_mem hlt)
    rw [hd]
    generalize l[j] = x at *
    obtain ⟨M1, M2, rfl, hM1⟩ : ∃ M1 M2 : List Value, M = M1 ++ M2 ∧ M1.length = 2 := ⟨M.take 2, M.drop 2, (List.take_append_drop _ _).symm, by rw [List.length_take]; omega⟩
    simp only [List.map_cons, List.flatten_cons, List.append_assoc]
    have hM2 : M2.length = (j - K.length) * 2 - 2 := by rw [List.length_append] at hM; omega
    have hcell : ((K.map lfV).flatten ++ (M1 ++ (M2 ++ (lfV x ++ (((l.drop (j + 1)).map lfV).flatten ++ sp))))).drop (0 + j * 2) = lfV x ++ (((l.drop (j + 1)).map lfV).flatten ++ sp) := by
     rw [← List.append_assoc M1, ← List.append_assoc]
     refine List.drop_left' ?_
     simp only [List.length_append, hKl]; omega
    have hcc : (((K.map lfV).flatten ++ (M1 ++ (M2 ++ (lfV x ++ (((l.drop (j + 1)).map lfV).flatten ++ sp))))).drop (0 + j * 2)).take 2 = lfV x := by rw [hcell]; rfl
    have hfit : 0 + j * 2 + 2 ≤ ((K.map lfV).flatten ++ (M1 ++ (M2 ++ (lfV x ++ (((l.drop (j + 1)).map lfV).flatten ++ sp))))).length := by
     have := congrArg List.length hcell
     simp only [List.length_drop, List.length_append, show (lfV x).length = 2 from rfl] at this ⊢
     omega
    have hPl : ((K.map lfV).flatten).length = 0 + K.length * 2 := by rw [hKl]; omega
    cases hpx : pp x
    ·rw [hpx] at hp0 hx1
     have hre : (K.map lfV).flatten ++ (lfV x ++ (M2 ++ (lfV x ++ (((l.drop (j + 1)).map lfV).flatten ++ sp)))) = ((K ++ [x]).map lfV).flatten ++ ((M2 ++ lfV x) ++ (((l.drop (j + 1)).map lfV).flatten ++ sp)) := by simp
     (try simp only [kM, kN, kO] at hre)
     repeat' (first | (refine Ze (.tmp 26) ?_; refine qC rfl rfl (hp0) ?_; rintro v ρ' L' hle ⟨rfl, rfl, rfl⟩ <;> (try simp only [kM, kN, kO])) | (refine tl_store_midA (P := _) (l := M1) rfl rfl hPl hM1 rfl rfl ?_) | (refine Zz ?_; refine Zk (Zc rfl) rfl rfl ?_) | (refine Zh ?_; first | (refine Zf ?_; refine qQ ?_) | refine Zm ?_) | refine Zb ?_ | (refine Zi ?_; refine Zr ?_) | (refine Zj ?_; refine Zs ?_) | intro _)
     (try simp only [kM, kN, kO])
     rw [hre]
     have hKn : (K ++ [x]).length = K.length + 1 := by simp
     rw [show ((K.length : Int) + 1) = (((K ++ [x]).length : Nat) : Int) by rw [hKn]; omega]
     refine Zp (j + 1, (K ++ [x]).length, K ++ [x], M2 ++ lfV x) (⟨hlt, rfl, by rw [hx1]; rfl, by dsimp only; omega, by simp only [List.length_append, List.length_singleton, show (lfV x).length = 2 from rfl]; omega⟩) Zl Zl rfl tk inferInstance (by first | omega | (dsimp only; omega))
    ·rw [hpx] at hp0 hx1
     have hre : (K.map lfV).flatten ++ (M1 ++ (M2 ++ (lfV x ++ (((l.drop (j + 1)).map lfV).flatten ++ sp)))) = (K.map lfV).flatten ++ (((M1 ++ M2) ++ lfV x) ++ (((l.drop (j + 1)).map lfV).flatten ++ sp)) := by simp
     (try simp only [kM, kN, kO] at hre)
     repeat' (first | (refine Ze (.tmp 26) ?_; refine qC rfl rfl (hp0) ?_; rintro v ρ' L' hle ⟨rfl, rfl, rfl⟩ <;> (try simp only [kM, kN, kO])) | (refine Zz ?_; refine Zk (Zc rfl) rfl rfl ?_) | (refine Zh ?_; first | (refine Zf ?_; refine qQ ?_) | refine Zm ?_) | refine Zb ?_ | (refine Zi ?_; refine Zr ?_) | (refine Zj ?_; refine Zs ?_) | intro _)
     (try simp only [kM, kN, kO])
     rw [hre]
     refine Zp (j + 1, K.length, K, (M1 ++ M2) ++ lfV x) (⟨hlt, rfl, by rw [hx1]; simp, by dsimp only; omega, by simp only [List.length_append, List.length_singleton, show (lfV x).length = 2 from rfl] at hM ⊢; omega⟩) Zl Zl rfl tk inferInstance (by first | omega | (dsimp only; omega))
   ·obtain rfl : j = l.length := by omega
    rw [List.take_length] at hK
    simp only [List.drop_length, List.map_nil, List.flatten_nil, List.nil_append]
    have hni : ¬ cap = K.length := by omega
    have hst : ∀ ws : List Value, ws.length = (l.length - K.length) * 2 → stc ((K.map lfV).flatten ++ (M ++ sp)) (K.length * 2) ws = (K.map lfV).flatten ++ (ws ++ sp) := fun ws hw => by
     rw [← hKl, stcN_mid (by rw [hw, hM])]
    repeat' (first | (refine Zz ?_; refine Zk (Zc rfl) rfl rfl ?_) | (refine Zh ?_; first | (refine Zf ?_; refine qQ ?_) | refine Zm ?_) | refine Zb ?_ | (refine Zi ?_; refine Zr ?_) | (refine Zj ?_; refine Zs ?_) | intro _)
    simp only [Int.toNat_natCast, if_neg hni, Option.map_some, Yo, Nat.zero_add]
    refine tl_clearN (sz := 2) rfl rfl rfl (by simp only [List.length_append]; omega) (by omega) (fun ws hws => ?_)
    rw [hst ws hws]
    repeat' (first | (refine Zz ?_; refine Zk (Zc rfl) rfl rfl ?_) | (refine Zh ?_; first | (refine Zf ?_; refine qQ ?_) | refine Zm ?_) | refine Zb ?_ | (refine Zi ?_; refine Zr ?_) | (refine Zj ?_; refine Zs ?_) | intro _)
    rw [← hK]
    refine qE (L' := [(b, .cells ⟨(K.map lfV).flatten ++ (ws ++ sp)⟩ 108 (0, 0))] :: X) ⟨rfl, ws ++ sp, ⟨.inr ⟨b, cap, rfl, hKl, ?_, by omega⟩⟩, rfl⟩
    simp only [List.length_append, hws]
    have : ((l.map lfV).flatten).length + sp.length = cap * 2 := h2
    rw [hfl l] at this
    omega
theorem idxX_spec (ρ : Hp) (a : Option Addr) (n c : Nat) (l : List Tx) (h : AIn ρ 7 txV a n l) (hn : n ≤ 200000000000000) (F : Nat) [hF : Yk Tryz.prog F] (cs : List Value) (X : SH) (pp : Tx → Bool)
  (hp : ∀ x ∈ l, Spec Tryz.prog F (.agg ⟨txV x⟩ :: cs) ρ X (fun z ρ' L' => z = .bool (pp x) ∧ ρ' = ρ ∧ L' = X)) :
  Spec Tryz.prog 155 [.slice a n c, .func (.func F) ⟨[]⟩ ⟨cs⟩] ρ X (fun z ρ' L' => z = .int .i64 (YN pp l) ∧ ρ' = ρ ∧ L' = X) := by
 have hl := h.len
 refine Zg Tryz.func155 rfl rfl rfl fun u R => ?_
 simp only [Zx, List.cons_append, List.nil_append]
 repeat' (first | (refine Zz ?_; refine Zk (Zc rfl) rfl rfl ?_) | (refine Zh ?_; first | (refine Zf ?_; refine qQ ?_) | refine Zm ?_) | refine Zb ?_ | (refine Zi ?_; refine Zr ?_) | (refine Zj ?_; refine Zs ?_) | intro _)
 refine ZC [(0, _), (1, _), (7, _)] (fun (ζ : (Nat)) => [(8, .int .i64 ζ), (4, .int .i64 0)]) (fun (ζ : (Nat)) => ρ) (fun (ζ : (Nat)) => X) (fun (ζ : (Nat)) => ζ ≤ n ∧ ∀ x ∈ l.take ζ, pp x = false) (fun (ζ : (Nat)) => n - ζ) (0) (⟨Nat.zero_le _, by simp⟩) Zl Zl rfl tk ?_
 rintro k hI
 try simp only [List.cons_append, List.nil_append, List.append_assoc, List.append_eq] at hI ⊢
 try dsimp only at hI ⊢
 obtain ⟨hk, hok⟩ := hI
 by_cases hlt : k < n
 ·obtain ⟨b, off, C, T, fr, rfl, hb, hfit, hc⟩ := h.get (show k < l.length by omega)
  have hf := fun (e : pp l[k] = true) => XT (p := pp) (show k < l.length by omega) e hok
  have ht := fun (e : pp l[k] = false) => take_more (p := fun x => pp x = false) (show k < l.length by omega) e hok
  have hp0 := hp _ (List.getElem_mem (show k < l.length by omega))
  cases hx : pp l[k]
  ·have hok2 := ht hx
   rw [hx] at hp0
   generalize l[k] = x at *
   repeat' (first | (refine Ze (.tmp 11) ?_; refine qC rfl rfl (hp0) ?_; rintro v ρ' L' hle ⟨rfl, rfl, rfl⟩ <;> (try simp only [kM, kN, kO])) | (refine Zz ?_; refine Zk (Zc rfl) rfl rfl ?_) | (refine Zh ?_; first | (refine Zf ?_; refine qQ ?_) | refine Zm ?_) | refine Zb ?_ | (refine Zi ?_; refine Zr ?_) | (refine Zj ?_; refine Zs ?_) | intro _)
   refine Zp (k + 1) (⟨hlt, hok2⟩) Zl Zl rfl tk inferInstance (by first | omega | (dsimp only; omega))
  ·have e := hf hx
   rw [hx] at hp0
   have e2 : YN pp l = (k : Int) := by unfold YN; rw [e]
   rw [e2]
   generalize l[k] = x at *
   repeat' (first | (refine Ze (.tmp 11) ?_; refine qC rfl rfl (hp0) ?_; rintro v ρ' L' hle ⟨rfl, rfl, rfl⟩ <;> (try simp only [kM, kN, kO])) | (refine Zz ?_; refine Zk (Zc rfl) rfl rfl ?_) | (refine Zh ?_; first | (refine Zf ?_; refine qQ ?_) | refine Zm ?_) | refine Zb ?_ | (refine Zi ?_; refine Zr ?_) | (refine Zj ?_; refine Zs ?_) | intro _)
   exact qE (L' := _) ⟨rfl, rfl, rfl⟩
 ·have hk2 : k = l.length := by omega
  rw [hk2, List.take_length] at hok
  have e2 : YN pp l = -1 := by unfold YN; rw [Wp hok]
  rw [e2]
  repeat' (first | (refine Zz ?_; refine Zk (Zc rfl) rfl rfl ?_) | (refine Zh ?_; first | (refine Zf ?_; refine qQ ?_) | refine Zm ?_) | refine Zb ?_ | (refine Zi ?_; refine Zr ?_) | (refine Zj ?_; refine Zs ?_) | intro _)
  exact qE (L' := _) ⟨rfl, rfl, rfl⟩
theorem delX_spec (ρ : Hp) (v : Value) (sp : List Value) (l : List Tx) (hl : l.length ≤ 200000000000000) (hown : OwnS v l.length ((l.map txV).flatten) sp 7) (F : Nat) [hF : Yk Tryz.prog F] (cs : List Value) (X : SH) (pp : Tx → Bool)
  (hp : ∀ ρ1, ρ.le ρ1 → ∀ x ∈ l, Spec Tryz.prog F (.agg ⟨txV x⟩ :: cs) ρ1 X (fun z ρ' L' => z = .bool (pp x) ∧ ρ' = ρ1 ∧ L' = X)) :
  Spec Tryz.prog 151 [v, .func (.func F) ⟨[]⟩ ⟨cs⟩] ρ (ZN v ((l.map txV).flatten) sp 45 :: X)
   (fun z ρ' L' => ρ' = ρ ∧ ∃ sp', OwnS z (l.filter (fun x => !pp x)).length (((l.filter (fun x => !pp x)).map txV).flatten) sp' 7 ∧ L' = ZN z (((l.filter (fun x => !pp x)).map txV).flatten) sp' 45 :: X) := by
 have hidx : Spec Tryz.prog 155 [v, .func (.func F) ⟨[]⟩ ⟨cs⟩] ρ ([ZN v ((l.map txV).flatten) sp 45] ++ X) (fun z ρ' L' => z = .int .i64 (YN pp l) ∧ ρ' = ρ ∧ L' = ZN v ((l.map txV).flatten) sp 45 :: X) := by
  refine (Spec.thaw (C := [ZN v ((l.map txV).flatten) sp 45]) (L := X) (Post := fun z L' => z = .int .i64 (YN pp l) ∧ L' = X) (fun ρ1 hle hf => ?_)).mono ?_
  ·obtain ⟨a, c, rfl, hc, hA⟩ := hown.aIn rfl (fun x _ => rfl) (by simpa using hf)
   exact (idxX_spec ρ1 a l.length c l hA hl F cs X pp (hp ρ1 hle)).mono (fun z ρ' L' _ h => ⟨h.2.1, h.1, h.2.2⟩)
  ·rintro z ρ' L' _ ⟨rfl, L2, ⟨rfl, rfl⟩, rfl⟩
   exact ⟨rfl, rfl, rfl⟩
 rcases hown.out with ⟨rfl, h0, h1, rfl⟩ | ⟨b, cap, rfl, h1, h2, h3⟩
 ·have hl0 : l = [] := List.eq_nil_of_length_eq_zero h0
  subst hl0
  have e : YN pp [] = -1 := rfl
  rw [e] at hidx
  refine Zg Tryz.func151 rfl rfl rfl fun u R => ?_
  simp only [Zx, List.cons_append, List.nil_append] at hidx ⊢
  repeat' (first | (refine Ze (.func 155) ?_; refine qC rfl rfl (hidx) ?_; rintro v ρ' L' hle ⟨rfl, rfl, rfl⟩ <;> (try simp only [kM, kN, kO])) | (refine Zz ?_; refine Zk (Zc rfl) rfl rfl ?_) | (refine Zh ?_; first | (refine Zf ?_; refine qQ ?_) | refine Zm ?_) | refine Zb ?_ | (refine Zi ?_; refine Zr ?_) | (refine Zj ?_; refine Zs ?_) | intro _)
  exact qE (L' := [] :: X) ⟨rfl, [], OwnS.nil 7, rfl⟩
 ·by_cases hall : ∀ x ∈ l, pp x = false
  ·have e : YN pp l = -1 := by unfold YN; rw [Wp hall]
   have hfl : l.filter (fun x => !pp x) = l := List.filter_eq_self.2 (fun x hx => by rw [hall x hx]; rfl)
   rw [e] at hidx
   rw [hfl]
   refine Zg Tryz.func151 rfl rfl rfl fun u R => ?_
   simp only [Zx, List.cons_append, List.nil_append] at hidx ⊢
   repeat' (first | (refine Ze (.func 155) ?_; refine qC rfl rfl (hidx) ?_; rintro v ρ' L' hle ⟨rfl, rfl, rfl⟩ <;> (try simp only [kM, kN, kO])) | (refine Zz ?_; refine Zk (Zc rfl) rfl rfl ?_) | (refine Zh ?_; first | (refine Zf ?_; refine qQ ?_) | refine Zm ?_) | refine Zb ?_ | (refine Zi ?_; refine Zr ?_) | (refine Zj ?_; refine Zs ?_) | intro _)
   exact qE (L' := ZN (.slice (some ⟨b, 0, none⟩) l.length cap) ((l.map txV).flatten) sp 45 :: X) ⟨rfl, sp, hown, rfl⟩
  ·obtain ⟨i, hi, hpi, hbef⟩ : ∃ i, ∃ h : i < l.length, pp l[i] = true ∧ ∀ x ∈ l.take i, pp x = false := by
    cases hf : l.findIdx? pp with
    | none => exact absurd (fun x hx => by have := List.findIdx?_eq_none_iff.1 hf x hx; exact this) hall
    | some i =>
     obtain ⟨h1, h2, h3⟩ := List.findIdx?_eq_some_iff_getElem.1 hf
     refine ⟨i, h1, h2, fun x hx => ?_⟩
     obtain ⟨j, hj, rfl⟩ := List.mem_take_iff_getElem.1 hx
     have := h3 j (by omega)
     simpa using this
   have e : YN pp l = (i : Int) := by unfold YN; rw [XT (p := pp) hi hpi hbef]
   have hK0 : (l.take i).filter (fun x => !pp x) = l.take i := List.filter_eq_self.2 (fun x hx => by rw [hbef x hx]; rfl)
   have hK1 : (l.take (i + 1)).filter (fun x => !pp x) = l.take i := by
    rw [List.take_succ_eq_append_getElem hi, List.filter_append, hK0, List.filter_cons, if_neg (by simp [hpi])]; simp
   have hfl : ∀ m : List Tx, ((m.map txV).flatten).length = m.length * 7 := fun m => flatN_len txV_len m
   have hC : ∀ xs sp, ZN (.slice (some ⟨b, 0, none⟩) l.length cap) xs sp 45 = [(b, .cells ⟨xs ++ sp⟩ 45 (0, 0))] := fun _ _ => rfl
   have hsplit : (l.map txV).flatten ++ sp = ((l.take i).map txV).flatten ++ (txV l[i] ++ (((l.drop (i + 1)).map txV).flatten ++ sp)) := by
    have : l = l.take i ++ l[i] :: l.drop (i + 1) := by rw [← List.drop_eq_getElem_cons hi, List.take_append_drop]
    have h2 : ∀ (A : List Tx) (x : Tx) (B : List Tx), ((A ++ x :: B).map txV).flatten ++ sp = (A.map txV).flatten ++ (txV x ++ ((B.map txV).flatten ++ sp)) := fun A x B => by simp
    exact (congrArg (fun l => (l.map txV).flatten ++ sp) this).trans (h2 _ _ _)
   rw [hC, e] at hidx
   rw [hC]
   refine Zg Tryz.func151 rfl rfl rfl fun u R => ?_
   simp only [Zx, List.cons_append, List.nil_append] at hidx ⊢
   repeat' (first | (refine Ze (.func 155) ?_; refine qC rfl rfl (hidx) ?_; rintro v ρ' L' hle ⟨rfl, rfl, rfl⟩ <;> (try simp only [kM, kN, kO])) | (refine Zz ?_; refine Zk (Zc rfl) rfl rfl ?_) | (refine Zh ?_; first | (refine Zf ?_; refine qQ ?_) | refine Zm ?_) | refine Zb ?_ | (refine Zi ?_; refine Zr ?_) | (refine Zj ?_; refine Zs ?_) | intro _)
   rw [hsplit]
   refine ZC [(0, _), (1, _), (4, _)] (fun (ζ : (Nat) × (Nat) × (List Tx) × (List Value)) => [(5, .int .i64 ζ.2.1), (6, .int .i64 ζ.1)]) (fun (ζ : (Nat) × (Nat) × (List Tx) × (List Value)) => ρ') (fun (ζ : (Nat) × (Nat) × (List Tx) × (List Value)) => [(b, .cells ⟨(ζ.2.2.1.map txV).flatten ++ (ζ.2.2.2 ++ (((l.drop ζ.1).map txV).flatten ++ sp))⟩ 45 (0, 0))] :: X) (fun (ζ : (Nat) × (Nat) × (List Tx) × (List Value)) => ζ.1 ≤ l.length ∧ ζ.2.1 = ζ.2.2.1.length ∧ ζ.2.2.1 = (l.take ζ.1).filter (fun x => !pp x) ∧ ζ.2.2.1.length < ζ.1 ∧ ζ.2.2.2.length = (ζ.1 - ζ.2.2.1.length) * 7) (fun (ζ : (Nat) × (Nat) × (List Tx) × (List Value)) => l.length - ζ.1) ((i + 1, i, l.take i, txV l[i])) (⟨hi, by simp; omega, hK1.symm, by simp; omega, by simp; omega⟩) Zl Zl rfl tk ?_
   rintro ⟨j, kl, K, M⟩ hI
   try simp only [List.cons_append, List.nil_append, List.append_assoc, List.append_eq] at hI ⊢
   try dsimp only at hI ⊢
   obtain ⟨hj, rfl, hK, hKj, hM⟩ := hI
   have hKl := hfl K
   by_cases hlt : j < l.length
   ·have hd := List.drop_eq_getElem_cons hlt
    have hx1 : (l.take (j + 1)).filter (fun x => !pp x) = K ++ (if pp l[j] then [] else [l[j]]) := by
     rw [List.take_succ_eq_append_getElem hlt, List.filter_append, ← hK, List.filter_cons]
     cases pp l[j] <;> simp
    have hp0 := hp ρ' (Hp.le_refl ρ') _ (List.getElem_mem hlt)
    rw [hd]
    generalize l[j] = x at *
    obtain ⟨M1, M2, rfl, hM1⟩ : ∃ M1 M2 : List Value, M = M1 ++ M2 ∧ M1.length = 7 := ⟨M.take 7, M.drop 7, (List.take_append_drop _ _).symm, by rw [List.length_take]; omega⟩
    simp only [List.map_cons, List.flatten_cons, List.append_assoc]
    have hM2 : M2.length = (j - K.length) * 7 - 7 := by rw [List.length_append] at hM; omega
    have hcell : ((K.map txV).flatten ++ (M1 ++ (M2 ++ (txV x ++ (((l.drop (j + 1)).map txV).flatten ++ sp))))).drop (0 + j * 7) = txV x ++ (((l.drop (j + 1)).map txV).flatten ++ sp) := by
     rw [← List.append_assoc M1, ← List.append_assoc]
     refine List.drop_left' ?_
     simp only [List.length_append, hKl]; omega
    have hcc : (((K.map txV).flatten ++ (M1 ++ (M2 ++ (txV x ++ (((l.drop (j + 1)).map txV).flatten ++ sp))))).drop (0 + j * 7)).take 7 = txV x := by rw [hcell]; rfl
    have hfit : 0 + j * 7 + 7 ≤ ((K.map txV).flatten ++ (M1 ++ (M2 ++ (txV x ++ (((l.drop (j + 1)).map txV).flatten ++ sp))))).length := by
     have := congrArg List.length hcell
     simp only [List.length_drop, List.length_append, show (txV x).length = 7 from rfl] at this ⊢
     omega
    have hPl : ((K.map txV).flatten).length = 0 + K.length * 7 := by rw [hKl]; omega
    cases hpx : pp x
    ·rw [hpx] at hp0 hx1
     have hre : (K.map txV).flatten ++ (txV x ++ (M2 ++ (txV x ++ (((l.drop (j + 1)).map txV).flatten ++ sp)))) = ((K ++ [x]).map txV).flatten ++ ((M2 ++ txV x) ++ (((l.drop (j + 1)).map txV).flatten ++ sp)) := by simp
     (try simp only [kM, kN, kO] at hre)
     repeat' (first | (refine Ze (.tmp 26) ?_; refine qC rfl rfl (hp0) ?_; rintro v ρ' L' hle ⟨rfl, rfl, rfl⟩ <;> (try simp only [kM, kN, kO])) | (refine tl_store_midA (P := _) (l := M1) rfl rfl hPl hM1 rfl rfl ?_) | (refine Zz ?_; refine Zk (Zc rfl) rfl rfl ?_) | (refine Zh ?_; first | (refine Zf ?_; refine qQ ?_) | refine Zm ?_) | refine Zb ?_ | (refine Zi ?_; refine Zr ?_) | (refine Zj ?_; refine Zs ?_) | intro _)
     (try simp only [kM, kN, kO])
     rw [hre]
     have hKn : (K ++ [x]).length = K.length + 1 := by simp
     rw [show ((K.length : Int) + 1) = (((K ++ [x]).length : Nat) : Int) by rw [hKn]; omega]
     refine Zp (j + 1, (K ++ [x]).length, K ++ [x], M2 ++ txV x) (⟨hlt, rfl, by rw [hx1]; rfl, by dsimp only; omega, by simp only [List.length_append, List.length_singleton, show (txV x).length = 7 from rfl]; omega⟩) Zl Zl rfl tk inferInstance (by first | omega | (dsimp only; omega))
    ·rw [hpx] at hp0 hx1
     have hre : (K.map txV).flatten ++ (M1 ++ (M2 ++ (txV x ++ (((l.drop (j + 1)).map txV).flatten ++ sp)))) = (K.map txV).flatten ++ (((M1 ++ M2) ++ txV x) ++ (((l.drop (j + 1)).map txV).flatten ++ sp)) := by simp
     (try simp only [kM, kN, kO] at hre)
     repeat' (first | (refine Ze (.tmp 26) ?_; refine qC rfl rfl (hp0) ?_; rintro v ρ' L' hle ⟨rfl, rfl, rfl⟩ <;> (try simp only [kM, kN, kO])) | (refine Zz ?_; refine Zk (Zc rfl) rfl rfl ?_) | (refine Zh ?_; first | (refine Zf ?_; refine qQ ?_) | refine Zm ?_) | refine Zb ?_ | (refine Zi ?_; refine Zr ?_) | (refine Zj ?_; refine Zs ?_) | intro _)
     (try simp only [kM, kN, kO])
     rw [hre]
     refine Zp (j + 1, K.length, K, (M1 ++ M2) ++ txV x) (⟨hlt, rfl, by rw [hx1]; simp, by dsimp only; omega, by simp only [List.length_append, List.length_singleton, show (txV x).length = 7 from rfl] at hM ⊢; omega⟩) Zl Zl rfl tk inferInstance (by first | omega | (dsimp only; omega))
   ·obtain rfl : j = l.length := by omega
    rw [List.take_length] at hK
    simp only [List.drop_length, List.map_nil, List.flatten_nil, List.nil_append]
    have hni : ¬ cap = K.length := by omega
    have hst : ∀ ws : List Value, ws.length = (l.length - K.length) * 7 → stc ((K.map txV).flatten ++ (M ++ sp)) (K.length * 7) ws = (K.map txV).flatten ++ (ws ++ sp) := fun ws hw => by
     rw [← hKl, stcN_mid (by rw [hw, hM])]
    repeat' (first | (refine Zz ?_; refine Zk (Zc rfl) rfl rfl ?_) | (refine Zh ?_; first | (refine Zf ?_; refine qQ ?_) | refine Zm ?_) | refine Zb ?_ | (refine Zi ?_; refine Zr ?_) | (refine Zj ?_; refine Zs ?_) | intro _)
    simp only [Int.toNat_natCast, if_neg hni, Option.map_some, Yo, Nat.zero_add]
    refine tl_clearN (sz := 7) rfl rfl rfl (by simp only [List.length_append]; omega) (by omega) (fun ws hws => ?_)
    rw [hst ws hws]
    repeat' (first | (refine Zz ?_; refine Zk (Zc rfl) rfl rfl ?_) | (refine Zh ?_; first | (refine Zf ?_; refine qQ ?_) | refine Zm ?_) | refine Zb ?_ | (refine Zi ?_; refine Zr ?_) | (refine Zj ?_; refine Zs ?_) | intro _)
    rw [← hK]
    refine qE (L' := [(b, .cells ⟨(K.map txV).flatten ++ (ws ++ sp)⟩ 45 (0, 0))] :: X) ⟨rfl, ws ++ sp, ⟨.inr ⟨b, cap, rfl, hKl, ?_, by omega⟩⟩, rfl⟩
    simp only [List.length_append, hws]
    have : ((l.map txV).flatten).length + sp.length = cap * 7 := h2
    rw [hfl l] at this
    omega
theorem idxU_spec (ρ : Hp) (a : Option Addr) (n c : Nat) (l : List Nat) (h : SIn ρ Yw a n l) (hn : n ≤ 200000000000000) (F : Nat) [hF : Yk Tryz.prog F] (cs : List Value) (X : SH) (pp : Nat → Bool)
  (hp : ∀ x ∈ l, Spec Tryz.prog F (Yw x :: cs) ρ X (fun z ρ' L' => z = .bool (pp x) ∧ ρ' = ρ ∧ L' = X)) :
  Spec Tryz.prog 202 [.slice a n c, .func (.func F) ⟨[]⟩ ⟨cs⟩] ρ X (fun z ρ' L' => z = .int .i64 (YN pp l) ∧ ρ' = ρ ∧ L' = X) := by
 have hl := h.len
 refine Zg Tryz.func202 rfl rfl rfl fun u R => ?_
 simp only [Zx, List.cons_append, List.nil_append]
 repeat' (first | (refine Zz ?_; refine Zk (Zc rfl) rfl rfl ?_) | (refine Zh ?_; first | (refine Zf ?_; refine qQ ?_) | refine Zm ?_) | refine Zb ?_ | (refine Zi ?_; refine Zr ?_) | (refine Zj ?_; refine Zs ?_) | intro _)
 refine ZC [(0, _), (1, _), (7, _)] (fun (ζ : (Nat)) => [(8, .int .i64 ζ), (4, .int .i64 0)]) (fun (ζ : (Nat)) => ρ) (fun (ζ : (Nat)) => X) (fun (ζ : (Nat)) => ζ ≤ n ∧ ∀ x ∈ l.take ζ, pp x = false) (fun (ζ : (Nat)) => n - ζ) (0) (⟨Nat.zero_le _, by simp⟩) Zl Zl rfl tk ?_
 rintro k hI
 try simp only [List.cons_append, List.nil_append, List.append_assoc, List.append_eq] at hI ⊢
 try dsimp only at hI ⊢
 obtain ⟨hk, hok⟩ := hI
 by_cases hlt : k < n
 ·obtain ⟨b, off, C, T, fr, rfl, hb, hc⟩ := h.get (show k < l.length by omega)
  have hf := fun (e : pp l[k] = true) => XT (p := pp) (show k < l.length by omega) e hok
  have ht := fun (e : pp l[k] = false) => take_more (p := fun x => pp x = false) (show k < l.length by omega) e hok
  have hp0 := hp _ (List.getElem_mem (show k < l.length by omega))
  cases hx : pp l[k]
  ·have hok2 := ht hx
   rw [hx] at hp0
   generalize l[k] = x at *
   repeat' (first | (refine Ze (.tmp 11) ?_; refine qC rfl rfl (hp0) ?_; rintro v ρ' L' hle ⟨rfl, rfl, rfl⟩ <;> (try simp only [kM, kN, kO])) | (refine Zz ?_; refine Zk (Zc rfl) rfl rfl ?_) | (refine Zh ?_; first | (refine Zf ?_; refine qQ ?_) | refine Zm ?_) | refine Zb ?_ | (refine Zi ?_; refine Zr ?_) | (refine Zj ?_; refine Zs ?_) | intro _)
   refine Zp (k + 1) (⟨hlt, hok2⟩) Zl Zl rfl tk inferInstance (by first | omega | (dsimp only; omega))
  ·have e := hf hx
   rw [hx] at hp0
   have e2 : YN pp l = (k : Int) := by unfold YN; rw [e]
   rw [e2]
   generalize l[k] = x at *
   repeat' (first | (refine Ze (.tmp 11) ?_; refine qC rfl rfl (hp0) ?_; rintro v ρ' L' hle ⟨rfl, rfl, rfl⟩ <;> (try simp only [kM, kN, kO])) | (refine Zz ?_; refine Zk (Zc rfl) rfl rfl ?_) | (refine Zh ?_; first | (refine Zf ?_; refine qQ ?_) | refine Zm ?_) | refine Zb ?_ | (refine Zi ?_; refine Zr ?_) | (refine Zj ?_; refine Zs ?_) | intro _)
   exact qE (L' := _) ⟨rfl, rfl, rfl⟩
 ·have hk2 : k = l.length := by omega
  rw [hk2, List.take_length] at hok
  have e2 : YN pp l = -1 := by unfold YN; rw [Wp hok]
  rw [e2]
  repeat' (first | (refine Zz ?_; refine Zk (Zc rfl) rfl rfl ?_) | (refine Zh ?_; first | (refine Zf ?_; refine qQ ?_) | refine Zm ?_) | refine Zb ?_ | (refine Zi ?_; refine Zr ?_) | (refine Zj ?_; refine Zs ?_) | intro _)
  exact qE (L' := _) ⟨rfl, rfl, rfl⟩
theorem delU_spec (ρ : Hp) (v : Value) (sp : List Value) (l : List Nat) (hl : l.length ≤ 200000000000000) (hown : OwnS v l.length (l.map Yw) sp 1) (F : Nat) [hF : Yk Tryz.prog F] (cs : List Value) (X : SH) (pp : Nat → Bool)
  (hp : ∀ ρ1, ρ.le ρ1 → ∀ x ∈ l, Spec Tryz.prog F (Yw x :: cs) ρ1 X (fun z ρ' L' => z = .bool (pp x) ∧ ρ' = ρ1 ∧ L' = X)) :
  Spec Tryz.prog 180 [v, .func (.func F) ⟨[]⟩ ⟨cs⟩] ρ (ZN v (l.map Yw) sp 28 :: X)
   (fun z ρ' L' => ρ' = ρ ∧ ∃ sp', OwnS z (l.filter (fun x => !pp x)).length ((l.filter (fun x => !pp x)).map Yw) sp' 1 ∧ L' = ZN z ((l.filter (fun x => !pp x)).map Yw) sp' 28 :: X) := by
 have hidx : Spec Tryz.prog 202 [v, .func (.func F) ⟨[]⟩ ⟨cs⟩] ρ ([ZN v (l.map Yw) sp 28] ++ X) (fun z ρ' L' => z = .int .i64 (YN pp l) ∧ ρ' = ρ ∧ L' = ZN v (l.map Yw) sp 28 :: X) := by
  refine (Spec.thaw (C := [ZN v (l.map Yw) sp 28]) (L := X) (Post := fun z L' => z = .int .i64 (YN pp l) ∧ L' = X) (fun ρ1 hle hf => ?_)).mono ?_
  ·obtain ⟨a, c, rfl, hc, hA⟩ := hown.sIn (by simpa using hf)
   exact (idxU_spec ρ1 a l.length c l hA hl F cs X pp (hp ρ1 hle)).mono (fun z ρ' L' _ h => ⟨h.2.1, h.1, h.2.2⟩)
  ·rintro z ρ' L' _ ⟨rfl, L2, ⟨rfl, rfl⟩, rfl⟩
   exact ⟨rfl, rfl, rfl⟩
 rcases hown.out with ⟨rfl, h0, h1, rfl⟩ | ⟨b, cap, rfl, h1, h2, h3⟩
 ·have hl0 : l = [] := List.eq_nil_of_length_eq_zero h0
  subst hl0
  have e : YN pp [] = -1 := rfl
  rw [e] at hidx
  refine Zg Tryz.func180 rfl rfl rfl fun u R => ?_
  simp only [Zx, List.cons_append, List.nil_append] at hidx ⊢
  repeat' (first | (refine Ze (.func 202) ?_; refine qC rfl rfl (hidx) ?_; rintro v ρ' L' hle ⟨rfl, rfl, rfl⟩ <;> (try simp only [kM, kN, kO])) | (refine Zz ?_; refine Zk (Zc rfl) rfl rfl ?_) | (refine Zh ?_; first | (refine Zf ?_; refine qQ ?_) | refine Zm ?_) | refine Zb ?_ | (refine Zi ?_; refine Zr ?_) | (refine Zj ?_; refine Zs ?_) | intro _)
  exact qE (L' := [] :: X) ⟨rfl, [], OwnS.nil 1, rfl⟩
 ·by_cases hall : ∀ x ∈ l, pp x = false
  ·have e : YN pp l = -1 := by unfold YN; rw [Wp hall]
   have hfl : l.filter (fun x => !pp x) = l := List.filter_eq_self.2 (fun x hx => by rw [hall x hx]; rfl)
   rw [e] at hidx
   rw [hfl]
   refine Zg Tryz.func180 rfl rfl rfl fun u R => ?_
   simp only [Zx, List.cons_append, List.nil_append] at hidx ⊢
   repeat' (first | (refine Ze (.func 202) ?_; refine qC rfl rfl (hidx) ?_; rintro v ρ' L' hle ⟨rfl, rfl, rfl⟩ <;> (try simp only [kM, kN, kO])) | (refine Zz ?_; refine Zk (Zc rfl) rfl rfl ?_) | (refine Zh ?_; first | (refine Zf ?_; refine qQ ?_) | refine Zm ?_) | refine Zb ?_ | (refine Zi ?_; refine Zr ?_) | (refine Zj ?_; refine Zs ?_) | intro _)
   exact qE (L' := ZN (.slice (some ⟨b, 0, none⟩) l.length cap) (l.map Yw) sp 28 :: X) ⟨rfl, sp, hown, rfl⟩
  ·obtain ⟨i, hi, hpi, hbef⟩ : ∃ i, ∃ h : i < l.length, pp l[i] = true ∧ ∀ x ∈ l.take i, pp x = false := by
    cases hf : l.findIdx? pp with
    | none => exact absurd (fun x hx => by have := List.findIdx?_eq_none_iff.1 hf x hx; exact this) hall
    | some i =>
     obtain ⟨h1, h2, h3⟩ := List.findIdx?_eq_some_iff_getElem.1 hf
     refine ⟨i, h1, h2, fun x hx => ?_⟩
     obtain ⟨j, hj, rfl⟩ := List.mem_take_iff_getElem.1 hx
     have := h3 j (by omega)
     simpa using this
   have e : YN pp l = (i : Int) := by unfold YN; rw [XT (p := pp) hi hpi hbef]
   have hK0 : (l.take i).filter (fun x => !pp x) = l.take i := List.filter_eq_self.2 (fun x hx => by rw [hbef x hx]; rfl)
   have hK1 : (l.take (i + 1)).filter (fun x => !pp x) = l.take i := by
    rw [List.take_succ_eq_append_getElem hi, List.filter_append, hK0, List.filter_cons, if_neg (by simp [hpi])]; simp
   have hfl : ∀ m : List Nat, (m.map Yw).length = m.length * 1 := fun m => by simp
   have hC : ∀ xs sp, ZN (.slice (some ⟨b, 0, none⟩) l.length cap) xs sp 28 = [(b, .cells ⟨xs ++ sp⟩ 28 (0, 0))] := fun _ _ => rfl
   have hsplit : l.map Yw ++ sp = (l.take i).map Yw ++ ([Yw l[i]] ++ ((l.drop (i + 1)).map Yw ++ sp)) := by
    have : l = l.take i ++ l[i] :: l.drop (i + 1) := by rw [← List.drop_eq_getElem_cons hi, List.take_append_drop]
    have h2 : ∀ (A : List Nat) (x : Nat) (B : List Nat), (A ++ x :: B).map Yw ++ sp = A.map Yw ++ ([Yw x] ++ (B.map Yw ++ sp)) := fun A x B => by simp
    exact (congrArg (fun l => l.map Yw ++ sp) this).trans (h2 _ _ _)
   rw [hC, e] at hidx
   rw [hC]
   refine Zg Tryz.func180 rfl rfl rfl fun u R => ?_
   simp only [Zx, List.cons_append, List.nil_append] at hidx ⊢
   repeat' (first | (refine Ze (.func 202) ?_; refine qC rfl rfl (hidx) ?_; rintro v ρ' L' hle ⟨rfl, rfl, rfl⟩ <;> (try simp only [kM, kN, kO])) | (refine Zz ?_; refine Zk (Zc rfl) rfl rfl ?_) | (refine Zh ?_; first | (refine Zf ?_; refine qQ ?_) | refine Zm ?_) | refine Zb ?_ | (refine Zi ?_; refine Zr ?_) | (refine Zj ?_; refine Zs ?_) | intro _)
   rw [hsplit]
   refine ZC [(0, _), (1, _), (4, _)] (fun (ζ : (Nat) × (Nat) × (List Nat) × (List Value)) => [(5, .int .i64 ζ.2.1), (6, .int .i64 ζ.1)]) (fun (ζ : (Nat) × (Nat) × (List Nat) × (List Value)) => ρ') (fun (ζ : (Nat) × (Nat) × (List Nat) × (List Value)) => [(b, .cells ⟨ζ.2.2.1.map Yw ++ (ζ.2.2.2 ++ ((l.drop ζ.1).map Yw ++ sp))⟩ 28 (0, 0))] :: X) (fun (ζ : (Nat) × (Nat) × (List Nat) × (List Value)) => ζ.1 ≤ l.length ∧ ζ.2.1 = ζ.2.2.1.length ∧ ζ.2.2.1 = (l.take ζ.1).filter (fun x => !pp x) ∧ ζ.2.2.1.length < ζ.1 ∧ ζ.2.2.2.length = (ζ.1 - ζ.2.2.1.length) * 1) (fun (ζ : (Nat) × (Nat) × (List Nat) × (List Value)) => l.length - ζ.1) ((i + 1, i, l.take i, [Yw l[i]])) (⟨hi, by simp; omega, hK1.symm, by simp; omega, by simp; omega⟩) Zl Zl rfl tk ?_
   rintro ⟨j, kl, K, M⟩ hI
   try simp only [List.cons_append, List.nil_append, List.append_assoc, List.append_eq] at hI ⊢
   try dsimp only at hI ⊢
   obtain ⟨hj, rfl, hK, hKj, hM⟩ := hI
   have hKl := hfl K
   by_cases hlt : j < l.length
   ·have hd := List.drop_eq_getElem_cons hlt
    have hx1 : (l.take (j + 1)).filter (fun x => !pp x) = K ++ (if pp l[j] then [] else [l[j]]) := by
     rw [List.take_succ_eq_append_getElem hlt, List.filter_append, ← hK, List.filter_cons]
     cases pp l[j] <;> simp
    have hp0 := hp ρ' (Hp.le_refl ρ') _ (List.getElem_mem hlt)
    rw [hd]
    generalize l[j] = x at *
    obtain ⟨M1, M2, rfl, hM1⟩ : ∃ M1 M2 : List Value, M = M1 ++ M2 ∧ M1.length = 1 := ⟨M.take 1, M.drop 1, (List.take_append_drop _ _).symm, by rw [List.length_take]; omega⟩
    simp only [List.map_cons, List.flatten_cons, List.append_assoc]
    have hM2 : M2.length = (j - K.length) * 1 - 1 := by rw [List.length_append] at hM; omega
    have hcell : (K.map Yw ++ (M1 ++ (M2 ++ (Yw x :: ((l.drop (j + 1)).map Yw ++ sp))))).drop (0 + j * 1) = Yw x :: ((l.drop (j + 1)).map Yw ++ sp) := by
     rw [← List.append_assoc M1, ← List.append_assoc]
     refine List.drop_left' ?_
     simp only [List.length_append, hKl]; omega
    have hcc : (K.map Yw ++ (M1 ++ (M2 ++ (Yw x :: ((l.drop (j + 1)).map Yw ++ sp)))))[0 + j * 1]? = some (Yw x) := by
     have := congrArg (fun z => z[0]?) hcell
     simpa using this
    have hPl : (K.map Yw).length = 0 + K.length * 1 := by rw [hKl]; omega
    cases hpx : pp x
    ·rw [hpx] at hp0 hx1
     have hre : K.map Yw ++ ([Yw x] ++ (M2 ++ (Yw x :: ((l.drop (j + 1)).map Yw ++ sp)))) = (K ++ [x]).map Yw ++ ((M2 ++ [Yw x]) ++ ((l.drop (j + 1)).map Yw ++ sp)) := by simp
     (try simp only [kM, kN, kO] at hre)
     repeat' (first | (refine Ze (.tmp 26) ?_; refine qC rfl rfl (hp0) ?_; rintro v ρ' L' hle ⟨rfl, rfl, rfl⟩ <;> (try simp only [kM, kN, kO])) | (obtain ⟨m1, rfl⟩ : ∃ m1, M1 = [m1] := List.length_eq_one_iff.1 hM1; refine tl_store_mid (o := 0 + K.length * 1) (d := 0) (P := _) (l := [m1]) rfl rfl hPl rfl ?_) | (refine Zz ?_; refine Zk (Zc rfl) rfl rfl ?_) | (refine Zh ?_; first | (refine Zf ?_; refine qQ ?_) | refine Zm ?_) | refine Zb ?_ | (refine Zi ?_; refine Zr ?_) | (refine Zj ?_; refine Zs ?_) | intro _)
     (try simp only [kM, kN, kO])
     rw [hre]
     have hKn : (K ++ [x]).length = K.length + 1 := by simp
     rw [show ((K.length : Int) + 1) = (((K ++ [x]).length : Nat) : Int) by rw [hKn]; omega]
     refine Zp (j + 1, (K ++ [x]).length, K ++ [x], M2 ++ [Yw x]) (⟨hlt, rfl, by rw [hx1]; rfl, by dsimp only; omega, by simp only [List.length_append, List.length_singleton]; omega⟩) Zl Zl rfl tk inferInstance (by first | omega | (dsimp only; omega))
    ·rw [hpx] at hp0 hx1
     have hre : K.map Yw ++ (M1 ++ (M2 ++ (Yw x :: ((l.drop (j + 1)).map Yw ++ sp)))) = K.map Yw ++ (((M1 ++ M2) ++ [Yw x]) ++ ((l.drop (j + 1)).map Yw ++ sp)) := by simp
     (try simp only [kM, kN, kO] at hre)
     repeat' (first | (refine Ze (.tmp 26) ?_; refine qC rfl rfl (hp0) ?_; rintro v ρ' L' hle ⟨rfl, rfl, rfl⟩ <;> (try simp only [kM, kN, kO])) | (refine Zz ?_; refine Zk (Zc rfl) rfl rfl ?_) | (refine Zh ?_; first | (refine Zf ?_; refine qQ ?_) | refine Zm ?_) | refine Zb ?_ | (refine Zi ?_; refine Zr ?_) | (refine Zj ?_; refine Zs ?_) | intro _)
     (try simp only [kM, kN, kO])
     rw [hre]
     refine Zp (j + 1, K.length, K, (M1 ++ M2) ++ [Yw x]) (⟨hlt, rfl, by rw [hx1]; simp, by dsimp only; omega, by simp only [List.length_append, List.length_singleton] at hM ⊢; omega⟩) Zl Zl rfl tk inferInstance (by first | omega | (dsimp only; omega))
   ·obtain rfl : j = l.length := by omega
    rw [List.take_length] at hK
    simp only [List.drop_length, List.map_nil, List.flatten_nil, List.nil_append]
    have hni : ¬ cap = K.length := by omega
    have hst : ∀ ws : List Value, ws.length = (l.length - K.length) * 1 → stc (K.map Yw ++ (M ++ sp)) (K.length * 1) ws = K.map Yw ++ (ws ++ sp) := fun ws hw => by
     rw [← hKl, stcN_mid (by rw [hw, hM])]
    repeat' (first | (refine Zz ?_; refine Zk (Zc rfl) rfl rfl ?_) | (refine Zh ?_; first | (refine Zf ?_; refine qQ ?_) | refine Zm ?_) | refine Zb ?_ | (refine Zi ?_; refine Zr ?_) | (refine Zj ?_; refine Zs ?_) | intro _)
    simp only [Int.toNat_natCast, if_neg hni, Option.map_some, Yo, Nat.zero_add]
    refine tl_clearN (sz := 1) rfl rfl rfl (by simp only [List.length_append]; omega) (by omega) (fun ws hws => ?_)
    rw [hst ws hws]
    repeat' (first | (refine Zz ?_; refine Zk (Zc rfl) rfl rfl ?_) | (refine Zh ?_; first | (refine Zf ?_; refine qQ ?_) | refine Zm ?_) | refine Zb ?_ | (refine Zi ?_; refine Zr ?_) | (refine Zj ?_; refine Zs ?_) | intro _)
    rw [← hK]
    refine qE (L' := [(b, .cells ⟨K.map Yw ++ (ws ++ sp)⟩ 28 (0, 0))] :: X) ⟨rfl, ws ++ sp, ⟨.inr ⟨b, cap, rfl, hKl, ?_, by omega⟩⟩, rfl⟩
    simp only [List.length_append, hws]
    have : (l.map Yw).length + sp.length = cap * 1 := h2
    rw [hfl l] at this
    omega
theorem flat_oneG {α : Type} {g : α → List Value} (hg : ∀ x, (g x).all (·.oneCell') = true) (l : List α) : ((l.map g).flatten).all (·.oneCell') = true := by
 induction l with
 | nil => rfl
 | cons a r ih => simp only [List.map_cons, List.flatten_cons, List.all_append, Bool.and_eq_true]; exact ⟨hg a, ih⟩
theorem cloneX_spec (ρ : Hp) (a : Option Addr) (n c : Nat) (l : List Tx) (h : AIn ρ 7 txV a n l) (hn : n ≤ 1200000000000) (hc : n ≤ c) : Spec Tryz.prog 83 [.slice a n c] ρ []
  (fun v ρ' L' => ρ' = ρ ∧ ∃ sp, OwnS v l.length ((l.map txV).flatten) sp 7 ∧ L' = [ZN v ((l.map txV).flatten) sp 45]) := by
 have hl := h.len
 cases a with
 | none =>
  have hl0 : l = [] := by
   by_cases h0 : 0 < l.length
   ·obtain ⟨b, off, C, T, fr, h, _⟩ := h.get h0
    cases h
   ·exact List.eq_nil_of_length_eq_zero (by omega)
  subst hl0
  refine Zg Tryz.func83 rfl rfl rfl fun u R => ?_
  simp only [Zx, List.cons_append, List.nil_append]
  repeat' (first | (refine Zz ?_; refine Zk (Zc rfl) rfl rfl ?_) | (refine Zh ?_; first | (refine Zf ?_; refine qQ ?_) | refine Zm ?_) | refine Zb ?_ | (refine Zi ?_; refine Zr ?_) | (refine Zj ?_; refine Zs ?_) | intro _)
  exact qE (L' := [[]]) ⟨rfl, [], OwnS.nil 7, rfl⟩
 | some ad =>
  refine Zg Tryz.func83 rfl rfl rfl fun u R => ?_
  simp only [Zx, List.cons_append, List.nil_append]
  repeat' (first | (refine Zz ?_; refine Zk (Zc rfl) rfl rfl ?_) | (refine Zh ?_; first | (refine Zf ?_; refine qQ ?_) | refine Zm ?_) | refine Zb ?_ | (refine Zi ?_; refine Zr ?_) | (refine Zj ?_; refine Zs ?_) | intro _)
  rename_i bx
  refine Xg (n := 0) (xs := []) (sp := []) (ys := ((l.map txV).flatten)) (sz := 7) rfl rfl (OwnS.zero' _ 7) (hR := Yj) h.srcV (by rw [flatN_len txV_len]; omega) (flat_oneG txV_one l) (by decide) rfl (by omega) (by omega) rfl (fun v' sp' hown' => ?_)
  simp only [Nat.zero_add, List.nil_append] at hown' ⊢
  repeat' (first | (refine Zz ?_; refine Zk (Zc rfl) rfl rfl ?_) | (refine Zh ?_; first | (refine Zf ?_; refine qQ ?_) | refine Zm ?_) | refine Zb ?_ | (refine Zi ?_; refine Zr ?_) | (refine Zj ?_; refine Zs ?_) | intro _)
  rw [← hl] at hown'
  exact qE ⟨rfl, sp', hown', rfl⟩
theorem cloneL_spec (ρ : Hp) (a : Option Addr) (n c : Nat) (l : List Lf) (h : AIn ρ 2 lfV a n l) (hn : n ≤ 1200000000000) (hc : n ≤ c) : Spec Tryz.prog 84 [.slice a n c] ρ []
  (fun v ρ' L' => ρ' = ρ ∧ ∃ sp, OwnS v l.length ((l.map lfV).flatten) sp 2 ∧ L' = [ZN v ((l.map lfV).flatten) sp 108]) := by
 have hl := h.len
 cases a with
 | none =>
  have hl0 : l = [] := by
   by_cases h0 : 0 < l.length
   ·obtain ⟨b, off, C, T, fr, h, _⟩ := h.get h0
    cases h
   ·exact List.eq_nil_of_length_eq_zero (by omega)
  subst hl0
  refine Zg Tryz.func84 rfl rfl rfl fun u R => ?_
  simp only [Zx, List.cons_append, List.nil_append]
  repeat' (first | (refine Zz ?_; refine Zk (Zc rfl) rfl rfl ?_) | (refine Zh ?_; first | (refine Zf ?_; refine qQ ?_) | refine Zm ?_) | refine Zb ?_ | (refine Zi ?_; refine Zr ?_) | (refine Zj ?_; refine Zs ?_) | intro _)
  exact qE (L' := [[]]) ⟨rfl, [], OwnS.nil 2, rfl⟩
 | some ad =>
  refine Zg Tryz.func84 rfl rfl rfl fun u R => ?_
  simp only [Zx, List.cons_append, List.nil_append]
  repeat' (first | (refine Zz ?_; refine Zk (Zc rfl) rfl rfl ?_) | (refine Zh ?_; first | (refine Zf ?_; refine qQ ?_) | refine Zm ?_) | refine Zb ?_ | (refine Zi ?_; refine Zr ?_) | (refine Zj ?_; refine Zs ?_) | intro _)
  rename_i bx
  refine Xg (n := 0) (xs := []) (sp := []) (ys := ((l.map lfV).flatten)) (sz := 2) rfl rfl (OwnS.zero' _ 2) (hR := Yj) h.srcV (by rw [flatN_len lfV_len]; omega) (flat_oneG (fun _ => rfl) l) (by decide) rfl (by omega) (by omega) rfl (fun v' sp' hown' => ?_)
  simp only [Nat.zero_add, List.nil_append] at hown' ⊢
  repeat' (first | (refine Zz ?_; refine Zk (Zc rfl) rfl rfl ?_) | (refine Zh ?_; first | (refine Zf ?_; refine qQ ?_) | refine Zm ?_) | refine Zb ?_ | (refine Zi ?_; refine Zr ?_) | (refine Zj ?_; refine Zs ?_) | intro _)
  rw [← hl] at hown'
  exact qE ⟨rfl, sp', hown', rfl⟩
theorem cloneU_spec (ρ : Hp) (a : Option Addr) (n c : Nat) (l : List Nat) (h : SIn ρ Yw a n l) (hn : n ≤ 1200000000000) (hc : n ≤ c) : Spec Tryz.prog 85 [.slice a n c] ρ []
  (fun v ρ' L' => ρ' = ρ ∧ ∃ sp, OwnS v l.length (l.map Yw) sp 1 ∧ L' = [ZN v (l.map Yw) sp 28]) := by
 have hl := h.len
 cases a with
 | none =>
  have hl0 : l = [] := by
   by_cases h0 : 0 < l.length
   ·obtain ⟨b, off, C, T, fr, h, _⟩ := h.get h0
    cases h
   ·exact List.eq_nil_of_length_eq_zero (by omega)
  subst hl0
  refine Zg Tryz.func85 rfl rfl rfl fun u R => ?_
  simp only [Zx, List.cons_append, List.nil_append]
  repeat' (first | (refine Zz ?_; refine Zk (Zc rfl) rfl rfl ?_) | (refine Zh ?_; first | (refine Zf ?_; refine qQ ?_) | refine Zm ?_) | refine Zb ?_ | (refine Zi ?_; refine Zr ?_) | (refine Zj ?_; refine Zs ?_) | intro _)
  exact qE (L' := [[]]) ⟨rfl, [], OwnS.nil 1, rfl⟩
 | some ad =>
  refine Zg Tryz.func85 rfl rfl rfl fun u R => ?_
  simp only [Zx, List.cons_append, List.nil_append]
  repeat' (first | (refine Zz ?_; refine Zk (Zc rfl) rfl rfl ?_) | (refine Zh ?_; first | (refine Zf ?_; refine qQ ?_) | refine Zm ?_) | refine Zb ?_ | (refine Zi ?_; refine Zr ?_) | (refine Zj ?_; refine Zs ?_) | intro _)
  rename_i bx
  refine Xg (n := 0) (xs := []) (sp := []) (ys := (l.map Yw)) (sz := 1) rfl rfl (OwnS.zero' _ 1) (hR := Yj) h.srcV (by simp; omega) (by simp [Value.oneCell']) (by decide) rfl (by omega) (by omega) rfl (fun v' sp' hown' => ?_)
  simp only [Nat.zero_add, List.nil_append] at hown' ⊢
  repeat' (first | (refine Zz ?_; refine Zk (Zc rfl) rfl rfl ?_) | (refine Zh ?_; first | (refine Zf ?_; refine qQ ?_) | refine Zm ?_) | refine Zb ?_ | (refine Zi ?_; refine Zr ?_) | (refine Zj ?_; refine Zs ?_) | intro _)
  rw [← hl] at hown'
  exact qE ⟨rfl, sp', hown', rfl⟩
end Go.Proofs.E
